/-
  FnExactLinkFlight returns true for all links: the program's LinkFlight returns what the reference's returns, leaves its argument alone, and its result shares no memory with it.
-/
import Derived.Test.YtdnjdbafffifeaaFlight
import Derived.Test.YtdnjdbafffifeaaMarkLink
import Derived.Test.YtdnjdbafffifeaaRowWide
import Derived.StillTailTactics
set_option linter.unusedVariables false
set_option linter.unusedSimpArgs false
namespace Go.Proofs.Ytdnjdbafffifeaa
open Go.ChangeShapes Go.WideShapes Go.ChangeAt Go.RowKit

theorem LinkMk.turn {base top N : Nat} {w w' : World} {cs : List Value} (h : LinkMk w base top cs N) (k : Turn base top w w') : LinkMk w' base top cs N := by
  obtain ⟨va, vb, M, M2, e, la, lb, h1, h2, hN⟩ := h
  exact ⟨va, vb, M, M2, e, la, lb, h1.turn k, h2.turn k, hN⟩
theorem Blk.turn_ {base top g : Nat} {w w' : World} {t : TypeId} {cs : Array Value} (h : Blk w g t cs) (k : Turn base top w w') (hg : g < base ∨ top ≤ g) : Blk w' g t cs := (k.block g h.lt hg).trans h
theorem own_turn {base top : Nat} {w w' : World} {b n size : Nat} {e : TypeId} {v : Value} {xs : List Value} (h : w.ownsRow b e size v n xs) (k : Turn base top w w') (hv : ∀ g, v.ownBlock = some g → g < base ∨ top ≤ g) : w'.ownsRow b e size v n xs := by
  refine ⟨h.1, ?_⟩
  rcases h.2 with h0 | ⟨g, cap, cur, rfl, hb, hg, hr⟩
  · exact .inl h0
  · exact .inr ⟨g, cap, cur, rfl, hb, (k.block g (h.lt g rfl).2 (hv g rfl)).trans hg, hr⟩
theorem Turn.low {base top : Nat} {a w w' : World} (k : Turn base top w w') (hb : Below a.heap.size a w) (hs : a.heap.size ≤ w.heap.size) (hB : a.heap.size ≤ base) : Below a.heap.size a w' :=
  ⟨k.os.trans hb.os, k.tape.trans hb.tape, k.output.trans hb.output, Nat.le_trans hb.size k.size, fun i hi => (k.block i (Nat.lt_of_lt_of_le hi hs) (.inl (Nat.lt_of_lt_of_le hi hB))).trans (hb.block i hi)⟩
theorem way_len {d : LinkD} (hs : d.small) : d.flight.length ≤ 10485760 := by
  obtain ⟨⟨⟨h1, h2⟩, h3, h4⟩, ⟨⟨h5, h6⟩, h7, h8⟩⟩ := hs
  unfold LinkD.flight
  split
  · unfold LinkD.way
    simp only [List.length_append, List.length_map]
    split
    · simp only [List.length_singleton]; omega
    · simp only [List.length_nil]; omega
  · simp
set_option maxHeartbeats 2000000 in
theorem FnExactLinkFlight_big (cs : List Value) (d : LinkD) (w : World) (h : LinkIs w cs d) (hf : d.fits) (k : d.left 1048576 < 0) :
    Calls Try.prog 3 #[.agg cs.toArray] w fun e w' => e = .returned (.bool true) ∧ Below w.heap.size w w' := by
  have HL := Lib.hid h.len
  have hz := szLinkV cs d 1048576
  generalize d.left 1048576 = r at *
  have HZ := Lib.hid hz
  clear hz
  go_enter Try.func3, Try.ntmps3
  go_wp2_with (first | ((with_reducible refine at_load 37 (.tmp 1) rfl ?_); go_must (refine wpList_loadB (by repeat (first | (with_reducible exact (Blk.new w _ _)) | (with_reducible apply Blk.drew) | (with_reducible apply Blk.drewN) | (with_reducible apply Blk.alloc) | (with_reducible apply Blk.far) | omega | (focus (simp; done)) | (focus (simp; omega)))) 37 (.tmp 1) rfl (by rfl) 0 rfl (cs) (sub_all cs) Try.underlying37 rfl (sz_laws_Link.trans (congrArg some (Eq.symm (HL.out)))) ?_)) | (go_at_call 5; go_must ((with_reducible refine (HZ.out _ (h.below (by repeat (first | (with_reducible exact b_refl _) | (with_reducible refine b_alloc ?_ _) | (with_reducible refine b_drew ?_) | (with_reducible refine b_drewN ?_ _) | (with_reducible refine b_set ?_ ?_ _) | (with_reducible refine b_trans ?_ (by assumption)) | (with_reducible refine b_only ?_ (by assumption) ?_) | omega | (focus (simp; done)) | (focus (simp; omega))))) hf (by omega) (by omega)).mono ?_); rintro e w1 ⟨rfl, hb1⟩; have hz1 := hb1.size; (try simp at hz1))))
  go_ret
  exact ⟨rfl, (by repeat (first | (with_reducible exact b_refl _) | (with_reducible refine b_alloc ?_ _) | (with_reducible refine b_drew ?_) | (with_reducible refine b_drewN ?_ _) | (with_reducible refine b_set ?_ ?_ _) | (with_reducible refine b_trans ?_ (by assumption)) | (with_reducible refine b_only ?_ (by assumption) ?_) | omega | (focus (simp; done)) | (focus (simp; omega))))⟩
theorem wanted_intro {c : Bool} {A B : Prop} (h : c = true) (a : A) : if c = true then A else B := by rw [if_pos h]; exact a
set_option maxRecDepth 100000 in
set_option maxHeartbeats 4000000 in
theorem FnExactLinkFlight_small (cs : List Value) (d : LinkD) (w : World) (h : LinkIs w cs d) (hf : d.fits) (hs : d.small) (k : ¬ d.left 1048576 < 0) :
    Calls Try.prog 3 #[.agg cs.toArray] w fun e w' => e = .returned (.bool true) ∧ Below w.heap.size w w' := by
  have HL := Lib.hid h.len
  have hz := szLinkV cs d 1048576
  have hv1 := fun cs => spec_LinkFlight cs d
  have hv2 := fun cs => impl_LinkFlight cs d
  have hwl := way_len hs
  generalize d.left 1048576 = r at *
  generalize d.flight = fl at *
  have HZ := Lib.hid hz
  have HV1 := Lib.hid hv1
  have HV2 := Lib.hid hv2
  have HWL := Lib.hid hwl
  clear hz hv1 hv2 hwl
  go_enter Try.func3, Try.ntmps3
  go_wp2_with ((with_reducible refine at_load 37 (.tmp 1) rfl ?_); go_must (refine wpList_loadB (by repeat (first | (with_reducible exact (Blk.new w _ _)) | (with_reducible apply Blk.drew) | (with_reducible apply Blk.drewN) | (with_reducible apply Blk.alloc) | (with_reducible apply Blk.far) | omega | (focus (simp; done)) | (focus (simp; omega)))) 37 (.tmp 1) rfl (by rfl) 0 rfl (cs) (sub_all cs) Try.underlying37 rfl (sz_laws_Link.trans (congrArg some (Eq.symm (HL.out)))) ?_))
  go_wp2_with fail
  (with_reducible refine (HZ.out _ (h.below (by repeat (first | (with_reducible exact b_refl _) | (with_reducible refine b_alloc ?_ _) | (with_reducible refine b_drew ?_) | (with_reducible refine b_drewN ?_ _) | (with_reducible refine b_set ?_ ?_ _) | (with_reducible refine b_trans ?_ (by assumption)) | (with_reducible refine b_only ?_ (by assumption) ?_) | omega | (focus (simp; done)) | (focus (simp; omega))))) hf (by omega) (by omega)).mono ?_); rintro e w1 ⟨rfl, hb1⟩; have hz1 := hb1.size; (try simp at hz1); have F1 := (Blk.new w _ _).below hb1 (by first | omega | (simp; done) | (simp; omega)); (try simp only [World.size_alloc, List.setIfInBounds_toArray, List.set_cons_zero, List.set_cons_succ] at F1); have F1l := F1.lt; (try simp only [World.size_alloc] at F1l)
  go_wp2_with ((with_reducible refine at_load 37 (.tmp 1) rfl ?_); go_must (refine wpList_loadB (by repeat (first | (with_reducible exact F1) | (with_reducible apply Blk.drew) | (with_reducible apply Blk.drewN) | (with_reducible apply Blk.alloc) | (with_reducible apply Blk.far) | omega | (focus (simp; done)) | (focus (simp; omega)))) 37 (.tmp 1) rfl (by rfl) 0 rfl (cs) (sub_all cs) Try.underlying37 rfl (sz_laws_Link.trans (congrArg some (Eq.symm (HL.out)))) ?_))
  go_wp2_with fail
  (with_reducible refine (toLinkV cs d _ (h.below (by repeat (first | (with_reducible exact b_refl _) | (with_reducible refine b_alloc ?_ _) | (with_reducible refine b_drew ?_) | (with_reducible refine b_drewN ?_ _) | (with_reducible refine b_set ?_ ?_ _) | (with_reducible refine b_trans ?_ (by assumption)) | (with_reducible refine b_only ?_ (by assumption) ?_) | omega | (focus (simp; done)) | (focus (simp; omega))))) hs).mono ?_); rintro e w2 ⟨cs2, rfl, own2, hb2⟩; have hz2 := hb2.size; (try simp at hz2); have F2 := Blk.lift F1 hb2 (by repeat (first | (with_reducible exact F1) | (with_reducible refine Blk.drew ?_) | (with_reducible refine Blk.drewN ?_ _) | (with_reducible refine Blk.alloc ?_ _) | (with_reducible refine Blk.far ?_ ?_ _) | omega | (focus (simp; done)) | (focus (simp; omega)))); (try simp only [World.size_alloc, List.setIfInBounds_toArray, List.set_cons_zero, List.set_cons_succ] at F2); have F2l := F2.lt; (try simp only [World.size_alloc] at F2l)
  go_wp2_with fail
  (with_reducible refine (HV1.out cs2 _ own2.is hs).mono ?_); rintro e w3 ⟨A3, m3, c3, rfl, hm3, ho3, hc3, hd3, hb3⟩; have hz3 := hb3.size; (try simp at hz3); have F3 := Blk.lift F2 hb3 (by repeat (first | (with_reducible exact F2) | (with_reducible refine Blk.drew ?_) | (with_reducible refine Blk.drewN ?_ _) | (with_reducible refine Blk.alloc ?_ _) | (with_reducible refine Blk.far ?_ ?_ _) | omega | (focus (simp; done)) | (focus (simp; omega)))); (try simp only [World.size_alloc, List.setIfInBounds_toArray, List.set_cons_zero, List.set_cons_succ] at F3); have F3l := F3.lt; (try simp only [World.size_alloc] at F3l)
  have HM := Lib.hid hm3
  have hml : m3 ≤ 10485760 := by rw [hm3]; exact HWL.out
  clear hm3
  go_wp2_with ((with_reducible refine at_load 37 (.tmp 1) rfl ?_); go_must (refine wpList_loadB (by repeat (first | (with_reducible exact F3) | (with_reducible apply Blk.drew) | (with_reducible apply Blk.drewN) | (with_reducible apply Blk.alloc) | (with_reducible apply Blk.far) | omega | (focus (simp; done)) | (focus (simp; omega)))) 37 (.tmp 1) rfl (by rfl) 0 rfl (cs) (sub_all cs) Try.underlying37 rfl (sz_laws_Link.trans (congrArg some (Eq.symm (HL.out)))) ?_))
  go_wp2_with fail
  (with_reducible refine (toLinkV cs d _ (h.below (by repeat (first | (with_reducible exact b_refl _) | (with_reducible refine b_alloc ?_ _) | (with_reducible refine b_drew ?_) | (with_reducible refine b_drewN ?_ _) | (with_reducible refine b_set ?_ ?_ _) | (with_reducible refine b_trans ?_ (by assumption)) | (with_reducible refine b_only ?_ (by assumption) ?_) | omega | (focus (simp; done)) | (focus (simp; omega))))) hs).mono ?_); rintro e w4 ⟨cs4, rfl, own4, hb4⟩; have hz4 := hb4.size; (try simp at hz4); have F4 := Blk.lift F3 hb4 (by repeat (first | (with_reducible exact F3) | (with_reducible refine Blk.drew ?_) | (with_reducible refine Blk.drewN ?_ _) | (with_reducible refine Blk.alloc ?_ _) | (with_reducible refine Blk.far ?_ ?_ _) | omega | (focus (simp; done)) | (focus (simp; omega)))); (try simp only [World.size_alloc, List.setIfInBounds_toArray, List.set_cons_zero, List.set_cons_succ] at F4); have F4l := F4.lt; (try simp only [World.size_alloc] at F4l)
  have l4 := Lib.hid own4.len
  have o4 := Lib.hid own4.is.one
  obtain ⟨N, hN4, hNl⟩ := LinkMk.of_own own4 hs (Nat.le_refl w4.heap.size)
  go_wp2_with (first | ((with_reducible refine at_store 51 (.tmp 5) (.tmp 20) rfl ?_); go_must (refine wpList_storeB (Blk.now (Blk.new w4 _ _) (by repeat (first | (with_reducible exact (Blk.new w4 _ _)) | (with_reducible refine Blk.drew ?_) | (with_reducible refine Blk.drewN ?_ _) | (with_reducible refine Blk.alloc ?_ _) | (with_reducible refine Blk.far ?_ ?_ _) | omega | (focus (simp; done)) | (focus (simp; omega))))) 51 (.tmp 5) (.tmp 20) rfl (by rfl) 0 rfl (cs4) rfl (sz_impl_Link.trans (congrArg some (Eq.symm (l4.out)))) (o4.out) ((by rw [l4.out]; simp)) (cs4) (st_all (by rw [l4.out]; rfl)) ?_; intro w5 N5 ho5; have hz5 := ho5.size; (try simp at hz5); have F5 := Blk.liftO F4 ho5 (by repeat (first | (with_reducible exact F4) | (with_reducible refine Blk.drew ?_) | (with_reducible refine Blk.drewN ?_ _) | (with_reducible refine Blk.alloc ?_ _) | (with_reducible refine Blk.far ?_ ?_ _) | omega | (focus (simp; done)) | (focus (simp; omega)))) (by first | omega | (simp; done) | (simp; omega)); (try simp only [World.size_alloc, List.setIfInBounds_toArray, List.set_cons_zero, List.set_cons_succ] at F5); have F5l := F5.lt; (try simp only [World.size_alloc] at F5l); have X5 := N5; (try simp only [World.size_alloc, List.setIfInBounds_toArray, List.set_cons_zero, List.set_cons_succ] at X5); have X5l := X5.lt; (try simp only [World.size_alloc] at X5l))) | ((with_reducible refine at_load 51 (.tmp 5) rfl ?_); go_must (refine wpList_loadB (by repeat (first | (with_reducible exact X5) | (with_reducible apply Blk.drew) | (with_reducible apply Blk.drewN) | (with_reducible apply Blk.alloc) | (with_reducible apply Blk.far) | omega | (focus (simp; done)) | (focus (simp; omega)))) 51 (.tmp 5) rfl (by rfl) 0 rfl (cs4) (sub_all cs4) Try.underlying51 rfl (sz_impl_Link.trans (congrArg some (Eq.symm (l4.out)))) ?_)))
  have b45 : Below w4.heap.size w4 w5 := b_only (b_alloc (b_refl w4) _) ho5 (Nat.le_refl _)
  have h5 : LinkIs w5 cs4 d := own4.is.below b45
  have U5 : Below w.heap.size w w5 := (by repeat (first | (with_reducible exact b_refl _) | (with_reducible refine b_alloc ?_ _) | (with_reducible refine b_drew ?_) | (with_reducible refine b_drewN ?_ _) | (with_reducible refine b_set ?_ ?_ _) | (with_reducible refine b_trans ?_ (by assumption)) | (with_reducible refine b_only ?_ (by assumption) ?_) | omega | (focus (simp; done)) | (focus (simp; omega))))
  go_wp2_with fail
  (with_reducible refine (HV2.out cs4 _ (h5.below (by repeat (first | (with_reducible exact b_refl _) | (with_reducible refine b_alloc ?_ _) | (with_reducible refine b_drew ?_) | (with_reducible refine b_drewN ?_ _) | (with_reducible refine b_set ?_ ?_ _) | (with_reducible refine b_trans ?_ (by assumption)) | (with_reducible refine b_only ?_ (by assumption) ?_) | omega | (focus (simp; done)) | (focus (simp; omega))))) hs).mono ?_); rintro e w6 ⟨A6, m6, c6, rfl, hm6, ho6, hc6, hd6, hb6⟩; have hz6 := hb6.size; (try simp at hz6); have F6 := Blk.lift F5 hb6 (by repeat (first | (with_reducible exact F5) | (with_reducible refine Blk.drew ?_) | (with_reducible refine Blk.drewN ?_ _) | (with_reducible refine Blk.alloc ?_ _) | (with_reducible refine Blk.far ?_ ?_ _) | omega | (focus (simp; done)) | (focus (simp; omega)))); (try simp only [World.size_alloc, List.setIfInBounds_toArray, List.set_cons_zero, List.set_cons_succ] at F6); have F6l := F6.lt; (try simp only [World.size_alloc] at F6l); have X6 := Blk.lift X5 hb6 (by repeat (first | (with_reducible exact X5) | (with_reducible refine Blk.drew ?_) | (with_reducible refine Blk.drewN ?_ _) | (with_reducible refine Blk.alloc ?_ _) | (with_reducible refine Blk.far ?_ ?_ _) | omega | (focus (simp; done)) | (focus (simp; omega)))); (try simp only [World.size_alloc, List.setIfInBounds_toArray, List.set_cons_zero, List.set_cons_succ] at X6); have X6l := X6.lt; (try simp only [World.size_alloc] at X6l)
  obtain rfl : m3 = m6 := HM.out.trans hm6.symm
  clear hm6
  have r6 := own_below (own_below (own_below ho3 hb4) b45) hb6
  have U6 : Below w.heap.size w w6 := b_trans U5 hb6
  have z45 := b45.size
  have z34 := hb4.size
  have z23 := hb3.size
  have z56 := hb6.size
  have z12 := hb2.size
  go_wp2_with fail
  (with_reducible refine (eqIntS_any A6 A3 m3 m3 c6 c3 fl fl _ (Ints.of_own ho6) (Ints.of_own r6) (by omega) (by omega)).mono ?_); rintro e w7 ⟨rfl, hb7⟩; have hz7 := hb7.size; (try simp at hz7); have F7 := Blk.lift F6 hb7 (by repeat (first | (with_reducible exact F6) | (with_reducible refine Blk.drew ?_) | (with_reducible refine Blk.drewN ?_ _) | (with_reducible refine Blk.alloc ?_ _) | (with_reducible refine Blk.far ?_ ?_ _) | omega | (focus (simp; done)) | (focus (simp; omega)))); (try simp only [World.size_alloc, List.setIfInBounds_toArray, List.set_cons_zero, List.set_cons_succ] at F7); have F7l := F7.lt; (try simp only [World.size_alloc] at F7l); have X7 := Blk.lift X6 hb7 (by repeat (first | (with_reducible exact X6) | (with_reducible refine Blk.drew ?_) | (with_reducible refine Blk.drewN ?_ _) | (with_reducible refine Blk.alloc ?_ _) | (with_reducible refine Blk.far ?_ ?_ _) | omega | (focus (simp; done)) | (focus (simp; omega)))); (try simp only [World.size_alloc, List.setIfInBounds_toArray, List.set_cons_zero, List.set_cons_succ] at X7); have X7l := X7.lt; (try simp only [World.size_alloc] at X7l)
  have h7 : LinkIs w7 cs4 d := (h5.below hb6).below hb7
  have g7 := own_below ho6 hb7
  have r7 := own_below r6 hb7
  have hN7 := hN4.turn (Turn.of_below (b_trans (b_trans b45 hb6) hb7))
  have U7 : Below w.heap.size w w7 := b_trans U6 hb7
  have z07 : w.heap.size < w3.heap.size := F3.lt
  have z67 := hb7.size
  clear hb1 hb2 hb3 hb4 ho5 hb6 b45 own2 own4 N5 F1 F2 F3 F4 F5 F6 X5 X6 U5 U6 h5 r6 hN4
  go_wp2
  refine wp_region_any (by kernel_rfl) ?_
  change wpAny _ _ _ _ _ _ _ (World.drew _)
  refine wpAny_ready (rs := [0, 1]) (by kernel_rfl) (by simp) ?_
  refine AllReady.cons rfl (fun K hK => ?_) ?_
  · refine wanted_intro (by first | rfl | kernel_rfl) ?_
    refine wp_load_mid 51 (.tmp 5) rfl w4.heap.size 0 rfl cs4 _ (Blk.range (Blk.drew X7) 0 (sub_all cs4)) Try.underlying51 rfl (sz_impl_Link.trans (congrArg some l4.out.symm)) ?_
    refine hK _ _ ?_
    refine wpAny_ready (rs := [1]) (by kernel_rfl) (by simp) ?_
    refine AllReady.cons rfl (fun K hK => ?_) AllReady.nil
    refine wanted_intro (by first | rfl | kernel_rfl) ?_
    refine wp_load_mid 37 (.tmp 1) rfl w.heap.size 0 rfl cs _ (Blk.range (Blk.drew F7) 0 (sub_all cs)) Try.underlying37 rfl (sz_laws_Link.trans (congrArg some HL.out.symm)) ?_
    refine hK _ _ ?_
    refine wpAny_ready (rs := [2]) (by kernel_rfl) (by simp) ?_
    refine AllReady.cons rfl (fun K hK => ?_) AllReady.nil
    go_simp
    (with_reducible refine (toLinkV cs d _ (h.below (by repeat (first | (with_reducible exact b_refl _) | (with_reducible refine b_alloc ?_ _) | (with_reducible refine b_drew ?_) | (with_reducible refine b_drewN ?_ _) | (with_reducible refine b_set ?_ ?_ _) | (with_reducible refine b_trans ?_ (by assumption)) | (with_reducible refine b_only ?_ (by assumption) ?_) | omega | (focus (simp; done)) | (focus (simp; omega))))) hs).mono ?_); rintro e w8 ⟨cs8, rfl, own8, hb8⟩
    go_wp2
    refine wpAny_ready (rs := [3]) (by kernel_rfl) (by simp) ?_
    refine AllReady.cons rfl (fun K hK => ?_) AllReady.nil
    go_simp
    (with_reducible refine (eqLinkV cs4 cs8 d _ (h7.below (by repeat (first | (with_reducible exact b_refl _) | (with_reducible refine b_alloc ?_ _) | (with_reducible refine b_drew ?_) | (with_reducible refine b_drewN ?_ _) | (with_reducible refine b_set ?_ ?_ _) | (with_reducible refine b_trans ?_ (by assumption)) | (with_reducible refine b_only ?_ (by assumption) ?_) | omega | (focus (simp; done)) | (focus (simp; omega))))) own8.is hs).mono ?_); rintro e w9 ⟨rfl, hb9⟩
    go_wp2
    refine wpAny_ready (rs := [4]) (by kernel_rfl) (by simp) ?_
    refine AllReady.cons rfl (fun K hK => ?_) AllReady.nil
    go_simp
    refine hK _ _ ?_
    refine wpAny_done (by kernel_rfl) ?_ _
    have B79 : Below w7.heap.size w7 w9 := (by repeat (first | (with_reducible exact b_refl _) | (with_reducible refine b_alloc ?_ _) | (with_reducible refine b_drew ?_) | (with_reducible refine b_drewN ?_ _) | (with_reducible refine b_set ?_ ?_ _) | (with_reducible refine b_trans ?_ (by assumption)) | (with_reducible refine b_only ?_ (by assumption) ?_) | omega | (focus (simp; done)) | (focus (simp; omega))))
    have F9 := F7.below B79 F7.lt
    have X9 := X7.below B79 X7.lt
    have g9 := own_below g7 B79
    have r9 := own_below r7 B79
    have k9 := hN7.turn (Turn.of_below B79)
    have U9 : Below w.heap.size w w9 := b_trans U7 B79
    have z9 := B79.size
    have F9l := F9.lt
    clear F7 X7 g7 r7 hN7 U7 hb8 hb9 B79 own8
    go_wp2_with ((with_reducible refine at_load 51 (.tmp 5) rfl ?_); go_must (refine wpList_loadB (by repeat (first | (with_reducible exact X9) | (with_reducible apply Blk.drew) | (with_reducible apply Blk.drewN) | (with_reducible apply Blk.alloc) | (with_reducible apply Blk.far) | omega | (focus (simp; done)) | (focus (simp; omega)))) 51 (.tmp 5) rfl (by rfl) 0 rfl (cs4) (sub_all cs4) Try.underlying51 rfl (sz_impl_Link.trans (congrArg some (Eq.symm (l4.out)))) ?_))
    (with_reducible refine (markLink_turn w3.heap.size w4.heap.size cs4 N 1 _ k9 (by omega) (by omega) (by omega)).mono ?_); rintro e w10 ⟨rfl, T10⟩
    have F10 := F9.turn_ T10 (.inl (by omega))
    have g10 := own_turn g9 T10 (fun g hg => .inr (by have := (g9.lt g hg).1; omega))
    have r10 := own_turn r9 T10 (fun g hg => .inl (ho3.lt g hg).2)
    have U10 := T10.low U9 U9.size (by omega)
    have z10 := T10.size
    have F10l := F10.lt
    clear F9 X9 g9 r9 k9 T10 U9
    go_wp2_with fail
    (with_reducible refine (eqIntS_any A6 A3 m3 m3 c6 c3 fl fl _ (Ints.of_own g10) (Ints.of_own r10) (by omega) (by omega)).mono ?_); rintro e w11 ⟨rfl, hb11⟩; have hz11 := hb11.size; (try simp at hz11); have F11 := Blk.lift F10 hb11 (by repeat (first | (with_reducible exact F10) | (with_reducible refine Blk.drew ?_) | (with_reducible refine Blk.drewN ?_ _) | (with_reducible refine Blk.alloc ?_ _) | (with_reducible refine Blk.far ?_ ?_ _) | omega | (focus (simp; done)) | (focus (simp; omega)))); (try simp only [World.size_alloc, List.setIfInBounds_toArray, List.set_cons_zero, List.set_cons_succ] at F11); have F11l := F11.lt; (try simp only [World.size_alloc] at F11l)
    have g11 := own_below g10 hb11
    have r11 := own_below r10 hb11
    have U11 := b_trans U10 hb11
    clear g10 r10 U10 F10
    go_wp2_with fail
    (with_reducible refine (markIntS_any w5.heap.size A6 m3 c6 _ 1 _ g11 (by omega) (by omega) (by omega)).mono ?_); rintro e w12 ⟨rfl, g12, hg12⟩
    have F12 := F11.grown hg12 (fun e => by have := (g11.lt _ e.symm).1; omega)
    have r12 := r11.kept hg12 (own_apart' ho3 ho6 (by omega))
    have U12 : Below w.heap.size w w12 := b_own U11 hg12 (fun g hg => by have := (g11.lt g hg).1; omega)
    have hq12 : ¬ (1 + (m3 : Int)) < 0 := by omega
    have F12l := F12.lt
    clear g11 r11 F11 U11
    go_wp2_with fail
    (with_reducible refine (heldIntS_any A6 m3 c6 1 _ (Ints.of_own g12) (by omega) (by omega) (by omega)).mono ?_)
    rintro e w13 ⟨rfl, rfl⟩
    go_wp2_with ((with_reducible refine at_load 37 (.tmp 1) rfl ?_); go_must (refine wpList_loadB (by repeat (first | (with_reducible exact F12) | (with_reducible apply Blk.drew) | (with_reducible apply Blk.drewN) | (with_reducible apply Blk.alloc) | (with_reducible apply Blk.far) | omega | (focus (simp; done)) | (focus (simp; omega)))) 37 (.tmp 1) rfl (by rfl) 0 rfl (cs) (sub_all cs) Try.underlying37 rfl (sz_laws_Link.trans (congrArg some (Eq.symm (HL.out)))) ?_))
    go_wp2_with fail
    (with_reducible refine (toLinkV cs d _ (h.below U12) hs).mono ?_); rintro e w14 ⟨cs14, rfl, own14, hb14⟩; have hz14 := hb14.size; (try simp at hz14)
    go_wp2_with fail
    (with_reducible refine (HV2.out cs14 _ own14.is hs).mono ?_); rintro e w15 ⟨A15, m15, c15, rfl, hm15, ho15, hc15, hd15, hb15⟩; have hz15 := hb15.size; (try simp at hz15)
    obtain rfl : m3 = m15 := HM.out.trans hm15.symm
    clear hm15
    have r15 := own_below (own_below r12 hb14) hb15
    have g15 := own_below (own_below g12 hb14) hb15
    go_wp2_with fail
    (with_reducible refine (eqIntS_any A15 A3 m3 m3 c15 c3 fl fl _ (Ints.of_own ho15) (Ints.of_own r15) (by omega) (by omega)).mono ?_); rintro e w16 ⟨rfl, hb16⟩; have hz16 := hb16.size; (try simp at hz16)
    go_wp2_with fail
    (with_reducible refine (heldIntS_any A6 m3 c6 1 _ (Ints.of_own (own_below g15 hb16)) (by omega) (by omega) (by omega)).mono ?_)
    rintro e w17 ⟨rfl, rfl⟩
    go_wp2
    go_ret
    exact ⟨rfl, b_trans (b_trans (b_trans U12 hb14) hb15) hb16⟩
  refine AllReady.cons rfl (fun K hK => ?_) AllReady.nil
  refine wanted_intro (by first | rfl | kernel_rfl) ?_
  refine wp_load_mid 37 (.tmp 1) rfl w.heap.size 0 rfl cs _ (Blk.range (Blk.drew F7) 0 (sub_all cs)) Try.underlying37 rfl (sz_laws_Link.trans (congrArg some HL.out.symm)) ?_
  refine hK _ _ ?_
  refine wpAny_ready (rs := [0, 2]) (by kernel_rfl) (by simp) ?_
  refine AllReady.cons rfl (fun K hK => ?_) ?_
  · refine wanted_intro (by first | rfl | kernel_rfl) ?_
    refine wp_load_mid 51 (.tmp 5) rfl w4.heap.size 0 rfl cs4 _ (Blk.range (Blk.drew X7) 0 (sub_all cs4)) Try.underlying51 rfl (sz_impl_Link.trans (congrArg some l4.out.symm)) ?_
    refine hK _ _ ?_
    refine wpAny_ready (rs := [2]) (by kernel_rfl) (by simp) ?_
    refine AllReady.cons rfl (fun K hK => ?_) AllReady.nil
    go_simp
    (with_reducible refine (toLinkV cs d _ (h.below (by repeat (first | (with_reducible exact b_refl _) | (with_reducible refine b_alloc ?_ _) | (with_reducible refine b_drew ?_) | (with_reducible refine b_drewN ?_ _) | (with_reducible refine b_set ?_ ?_ _) | (with_reducible refine b_trans ?_ (by assumption)) | (with_reducible refine b_only ?_ (by assumption) ?_) | omega | (focus (simp; done)) | (focus (simp; omega))))) hs).mono ?_); rintro e w8 ⟨cs8, rfl, own8, hb8⟩
    go_wp2
    refine wpAny_ready (rs := [3]) (by kernel_rfl) (by simp) ?_
    refine AllReady.cons rfl (fun K hK => ?_) AllReady.nil
    go_simp
    (with_reducible refine (eqLinkV cs4 cs8 d _ (h7.below (by repeat (first | (with_reducible exact b_refl _) | (with_reducible refine b_alloc ?_ _) | (with_reducible refine b_drew ?_) | (with_reducible refine b_drewN ?_ _) | (with_reducible refine b_set ?_ ?_ _) | (with_reducible refine b_trans ?_ (by assumption)) | (with_reducible refine b_only ?_ (by assumption) ?_) | omega | (focus (simp; done)) | (focus (simp; omega))))) own8.is hs).mono ?_); rintro e w9 ⟨rfl, hb9⟩
    go_wp2
    refine wpAny_ready (rs := [4]) (by kernel_rfl) (by simp) ?_
    refine AllReady.cons rfl (fun K hK => ?_) AllReady.nil
    go_simp
    refine hK _ _ ?_
    refine wpAny_done (by kernel_rfl) ?_ _
    have B79 : Below w7.heap.size w7 w9 := (by repeat (first | (with_reducible exact b_refl _) | (with_reducible refine b_alloc ?_ _) | (with_reducible refine b_drew ?_) | (with_reducible refine b_drewN ?_ _) | (with_reducible refine b_set ?_ ?_ _) | (with_reducible refine b_trans ?_ (by assumption)) | (with_reducible refine b_only ?_ (by assumption) ?_) | omega | (focus (simp; done)) | (focus (simp; omega))))
    have F9 := F7.below B79 F7.lt
    have X9 := X7.below B79 X7.lt
    have g9 := own_below g7 B79
    have r9 := own_below r7 B79
    have k9 := hN7.turn (Turn.of_below B79)
    have U9 : Below w.heap.size w w9 := b_trans U7 B79
    have z9 := B79.size
    have F9l := F9.lt
    clear F7 X7 g7 r7 hN7 U7 hb8 hb9 B79 own8
    go_wp2_with ((with_reducible refine at_load 51 (.tmp 5) rfl ?_); go_must (refine wpList_loadB (by repeat (first | (with_reducible exact X9) | (with_reducible apply Blk.drew) | (with_reducible apply Blk.drewN) | (with_reducible apply Blk.alloc) | (with_reducible apply Blk.far) | omega | (focus (simp; done)) | (focus (simp; omega)))) 51 (.tmp 5) rfl (by rfl) 0 rfl (cs4) (sub_all cs4) Try.underlying51 rfl (sz_impl_Link.trans (congrArg some (Eq.symm (l4.out)))) ?_))
    (with_reducible refine (markLink_turn w3.heap.size w4.heap.size cs4 N 1 _ k9 (by omega) (by omega) (by omega)).mono ?_); rintro e w10 ⟨rfl, T10⟩
    have F10 := F9.turn_ T10 (.inl (by omega))
    have g10 := own_turn g9 T10 (fun g hg => .inr (by have := (g9.lt g hg).1; omega))
    have r10 := own_turn r9 T10 (fun g hg => .inl (ho3.lt g hg).2)
    have U10 := T10.low U9 U9.size (by omega)
    have z10 := T10.size
    have F10l := F10.lt
    clear F9 X9 g9 r9 k9 T10 U9
    go_wp2_with fail
    (with_reducible refine (eqIntS_any A6 A3 m3 m3 c6 c3 fl fl _ (Ints.of_own g10) (Ints.of_own r10) (by omega) (by omega)).mono ?_); rintro e w11 ⟨rfl, hb11⟩; have hz11 := hb11.size; (try simp at hz11); have F11 := Blk.lift F10 hb11 (by repeat (first | (with_reducible exact F10) | (with_reducible refine Blk.drew ?_) | (with_reducible refine Blk.drewN ?_ _) | (with_reducible refine Blk.alloc ?_ _) | (with_reducible refine Blk.far ?_ ?_ _) | omega | (focus (simp; done)) | (focus (simp; omega)))); (try simp only [World.size_alloc, List.setIfInBounds_toArray, List.set_cons_zero, List.set_cons_succ] at F11); have F11l := F11.lt; (try simp only [World.size_alloc] at F11l)
    have g11 := own_below g10 hb11
    have r11 := own_below r10 hb11
    have U11 := b_trans U10 hb11
    clear g10 r10 U10 F10
    go_wp2_with fail
    (with_reducible refine (markIntS_any w5.heap.size A6 m3 c6 _ 1 _ g11 (by omega) (by omega) (by omega)).mono ?_); rintro e w12 ⟨rfl, g12, hg12⟩
    have F12 := F11.grown hg12 (fun e => by have := (g11.lt _ e.symm).1; omega)
    have r12 := r11.kept hg12 (own_apart' ho3 ho6 (by omega))
    have U12 : Below w.heap.size w w12 := b_own U11 hg12 (fun g hg => by have := (g11.lt g hg).1; omega)
    have hq12 : ¬ (1 + (m3 : Int)) < 0 := by omega
    have F12l := F12.lt
    clear g11 r11 F11 U11
    go_wp2_with fail
    (with_reducible refine (heldIntS_any A6 m3 c6 1 _ (Ints.of_own g12) (by omega) (by omega) (by omega)).mono ?_)
    rintro e w13 ⟨rfl, rfl⟩
    go_wp2_with ((with_reducible refine at_load 37 (.tmp 1) rfl ?_); go_must (refine wpList_loadB (by repeat (first | (with_reducible exact F12) | (with_reducible apply Blk.drew) | (with_reducible apply Blk.drewN) | (with_reducible apply Blk.alloc) | (with_reducible apply Blk.far) | omega | (focus (simp; done)) | (focus (simp; omega)))) 37 (.tmp 1) rfl (by rfl) 0 rfl (cs) (sub_all cs) Try.underlying37 rfl (sz_laws_Link.trans (congrArg some (Eq.symm (HL.out)))) ?_))
    go_wp2_with fail
    (with_reducible refine (toLinkV cs d _ (h.below U12) hs).mono ?_); rintro e w14 ⟨cs14, rfl, own14, hb14⟩; have hz14 := hb14.size; (try simp at hz14)
    go_wp2_with fail
    (with_reducible refine (HV2.out cs14 _ own14.is hs).mono ?_); rintro e w15 ⟨A15, m15, c15, rfl, hm15, ho15, hc15, hd15, hb15⟩; have hz15 := hb15.size; (try simp at hz15)
    obtain rfl : m3 = m15 := HM.out.trans hm15.symm
    clear hm15
    have r15 := own_below (own_below r12 hb14) hb15
    have g15 := own_below (own_below g12 hb14) hb15
    go_wp2_with fail
    (with_reducible refine (eqIntS_any A15 A3 m3 m3 c15 c3 fl fl _ (Ints.of_own ho15) (Ints.of_own r15) (by omega) (by omega)).mono ?_); rintro e w16 ⟨rfl, hb16⟩; have hz16 := hb16.size; (try simp at hz16)
    go_wp2_with fail
    (with_reducible refine (heldIntS_any A6 m3 c6 1 _ (Ints.of_own (own_below g15 hb16)) (by omega) (by omega) (by omega)).mono ?_)
    rintro e w17 ⟨rfl, rfl⟩
    go_wp2
    go_ret
    exact ⟨rfl, b_trans (b_trans (b_trans U12 hb14) hb15) hb16⟩
  refine AllReady.cons rfl (fun K hK => ?_) AllReady.nil
  go_simp
  (with_reducible refine (toLinkV cs d _ (h.below (by repeat (first | (with_reducible exact b_refl _) | (with_reducible refine b_alloc ?_ _) | (with_reducible refine b_drew ?_) | (with_reducible refine b_drewN ?_ _) | (with_reducible refine b_set ?_ ?_ _) | (with_reducible refine b_trans ?_ (by assumption)) | (with_reducible refine b_only ?_ (by assumption) ?_) | omega | (focus (simp; done)) | (focus (simp; omega))))) hs).mono ?_); rintro e w8 ⟨cs8, rfl, own8, hb8⟩
  go_wp2
  refine wpAny_ready (rs := [0]) (by kernel_rfl) (by simp) ?_
  refine AllReady.cons rfl (fun K hK => ?_) AllReady.nil
  refine wanted_intro (by first | rfl | kernel_rfl) ?_
  refine wp_load_mid 51 (.tmp 5) rfl w4.heap.size 0 rfl cs4 _ (Blk.range ((Blk.drew X7).below hb8 (Blk.drew X7).lt) 0 (sub_all cs4)) Try.underlying51 rfl (sz_impl_Link.trans (congrArg some l4.out.symm)) ?_
  refine hK _ _ ?_
  refine wpAny_ready (rs := [3]) (by kernel_rfl) (by simp) ?_
  refine AllReady.cons rfl (fun K hK => ?_) AllReady.nil
  go_simp
  (with_reducible refine (eqLinkV cs4 cs8 d _ (h7.below (by repeat (first | (with_reducible exact b_refl _) | (with_reducible refine b_alloc ?_ _) | (with_reducible refine b_drew ?_) | (with_reducible refine b_drewN ?_ _) | (with_reducible refine b_set ?_ ?_ _) | (with_reducible refine b_trans ?_ (by assumption)) | (with_reducible refine b_only ?_ (by assumption) ?_) | omega | (focus (simp; done)) | (focus (simp; omega))))) own8.is hs).mono ?_); rintro e w9 ⟨rfl, hb9⟩
  go_wp2
  refine wpAny_ready (rs := [4]) (by kernel_rfl) (by simp) ?_
  refine AllReady.cons rfl (fun K hK => ?_) AllReady.nil
  go_simp
  refine hK _ _ ?_
  refine wpAny_done (by kernel_rfl) ?_ _
  have B79 : Below w7.heap.size w7 w9 := (by repeat (first | (with_reducible exact b_refl _) | (with_reducible refine b_alloc ?_ _) | (with_reducible refine b_drew ?_) | (with_reducible refine b_drewN ?_ _) | (with_reducible refine b_set ?_ ?_ _) | (with_reducible refine b_trans ?_ (by assumption)) | (with_reducible refine b_only ?_ (by assumption) ?_) | omega | (focus (simp; done)) | (focus (simp; omega))))
  have F9 := F7.below B79 F7.lt
  have X9 := X7.below B79 X7.lt
  have g9 := own_below g7 B79
  have r9 := own_below r7 B79
  have k9 := hN7.turn (Turn.of_below B79)
  have U9 : Below w.heap.size w w9 := b_trans U7 B79
  have z9 := B79.size
  have F9l := F9.lt
  clear F7 X7 g7 r7 hN7 U7 hb8 hb9 B79 own8
  go_wp2_with ((with_reducible refine at_load 51 (.tmp 5) rfl ?_); go_must (refine wpList_loadB (by repeat (first | (with_reducible exact X9) | (with_reducible apply Blk.drew) | (with_reducible apply Blk.drewN) | (with_reducible apply Blk.alloc) | (with_reducible apply Blk.far) | omega | (focus (simp; done)) | (focus (simp; omega)))) 51 (.tmp 5) rfl (by rfl) 0 rfl (cs4) (sub_all cs4) Try.underlying51 rfl (sz_impl_Link.trans (congrArg some (Eq.symm (l4.out)))) ?_))
  (with_reducible refine (markLink_turn w3.heap.size w4.heap.size cs4 N 1 _ k9 (by omega) (by omega) (by omega)).mono ?_); rintro e w10 ⟨rfl, T10⟩
  have F10 := F9.turn_ T10 (.inl (by omega))
  have g10 := own_turn g9 T10 (fun g hg => .inr (by have := (g9.lt g hg).1; omega))
  have r10 := own_turn r9 T10 (fun g hg => .inl (ho3.lt g hg).2)
  have U10 := T10.low U9 U9.size (by omega)
  have z10 := T10.size
  have F10l := F10.lt
  clear F9 X9 g9 r9 k9 T10 U9
  go_wp2_with fail
  (with_reducible refine (eqIntS_any A6 A3 m3 m3 c6 c3 fl fl _ (Ints.of_own g10) (Ints.of_own r10) (by omega) (by omega)).mono ?_); rintro e w11 ⟨rfl, hb11⟩; have hz11 := hb11.size; (try simp at hz11); have F11 := Blk.lift F10 hb11 (by repeat (first | (with_reducible exact F10) | (with_reducible refine Blk.drew ?_) | (with_reducible refine Blk.drewN ?_ _) | (with_reducible refine Blk.alloc ?_ _) | (with_reducible refine Blk.far ?_ ?_ _) | omega | (focus (simp; done)) | (focus (simp; omega)))); (try simp only [World.size_alloc, List.setIfInBounds_toArray, List.set_cons_zero, List.set_cons_succ] at F11); have F11l := F11.lt; (try simp only [World.size_alloc] at F11l)
  have g11 := own_below g10 hb11
  have r11 := own_below r10 hb11
  have U11 := b_trans U10 hb11
  clear g10 r10 U10 F10
  go_wp2_with fail
  (with_reducible refine (markIntS_any w5.heap.size A6 m3 c6 _ 1 _ g11 (by omega) (by omega) (by omega)).mono ?_); rintro e w12 ⟨rfl, g12, hg12⟩
  have F12 := F11.grown hg12 (fun e => by have := (g11.lt _ e.symm).1; omega)
  have r12 := r11.kept hg12 (own_apart' ho3 ho6 (by omega))
  have U12 : Below w.heap.size w w12 := b_own U11 hg12 (fun g hg => by have := (g11.lt g hg).1; omega)
  have hq12 : ¬ (1 + (m3 : Int)) < 0 := by omega
  have F12l := F12.lt
  clear g11 r11 F11 U11
  go_wp2_with fail
  (with_reducible refine (heldIntS_any A6 m3 c6 1 _ (Ints.of_own g12) (by omega) (by omega) (by omega)).mono ?_)
  rintro e w13 ⟨rfl, rfl⟩
  go_wp2_with ((with_reducible refine at_load 37 (.tmp 1) rfl ?_); go_must (refine wpList_loadB (by repeat (first | (with_reducible exact F12) | (with_reducible apply Blk.drew) | (with_reducible apply Blk.drewN) | (with_reducible apply Blk.alloc) | (with_reducible apply Blk.far) | omega | (focus (simp; done)) | (focus (simp; omega)))) 37 (.tmp 1) rfl (by rfl) 0 rfl (cs) (sub_all cs) Try.underlying37 rfl (sz_laws_Link.trans (congrArg some (Eq.symm (HL.out)))) ?_))
  go_wp2_with fail
  (with_reducible refine (toLinkV cs d _ (h.below U12) hs).mono ?_); rintro e w14 ⟨cs14, rfl, own14, hb14⟩; have hz14 := hb14.size; (try simp at hz14)
  go_wp2_with fail
  (with_reducible refine (HV2.out cs14 _ own14.is hs).mono ?_); rintro e w15 ⟨A15, m15, c15, rfl, hm15, ho15, hc15, hd15, hb15⟩; have hz15 := hb15.size; (try simp at hz15)
  obtain rfl : m3 = m15 := HM.out.trans hm15.symm
  clear hm15
  have r15 := own_below (own_below r12 hb14) hb15
  have g15 := own_below (own_below g12 hb14) hb15
  go_wp2_with fail
  (with_reducible refine (eqIntS_any A15 A3 m3 m3 c15 c3 fl fl _ (Ints.of_own ho15) (Ints.of_own r15) (by omega) (by omega)).mono ?_); rintro e w16 ⟨rfl, hb16⟩; have hz16 := hb16.size; (try simp at hz16)
  go_wp2_with fail
  (with_reducible refine (heldIntS_any A6 m3 c6 1 _ (Ints.of_own (own_below g15 hb16)) (by omega) (by omega) (by omega)).mono ?_)
  rintro e w17 ⟨rfl, rfl⟩
  go_wp2
  go_ret
  exact ⟨rfl, b_trans (b_trans (b_trans U12 hb14) hb15) hb16⟩
theorem FnExactLinkFlight_calls (cs : List Value) (d : LinkD) (w : World) (h : LinkIs w cs d) (hf : d.fits) :
    Calls Try.prog 3 #[.agg cs.toArray] w fun e w' => e = .returned (.bool true) ∧ Below w.heap.size w w' := by
  by_cases k : d.left 1048576 < 0
  · exact FnExactLinkFlight_big cs d w h hf k
  · exact FnExactLinkFlight_small cs d w h hf (LinkD.left_ok (by omega) (Int.not_lt.1 k)).1 k
set_option maxRecDepth 100000 in
set_option maxRecDepth 100000 in
theorem FnExactLinkFlight_lifted (os : Os) (started : os.Started) (H : Type) (enc : TypeId × Value → H) :
    ReturnsInHanded {} Try.checked os 3 .any (Rows.fnExactLinkFlightSpec.pre6 enc Try.prog Try.f3 Rows.fnExactLinkFlightRow.domain false) (Rows.fnExactLinkFlightSpec.post enc Try.prog Try.f3 false true false false) := by
  refine returnsInHanded_of_change (C := Try.checked) own started (by kernel_rfl) Try.func3
    (ChangeSpec.witness6 (enc := enc) (C := Try.checked) false ⟨#[], #[.agg #[.int .i64 0, .int .i64 0, .int .i64 0, .int .i64 0, .int .i64 0, .int .i64 0, .int .i64 0, .slice none 0 0, .bool false, .int .i64 0, .int .i64 0, .slice none 0 0, .int .i64 0, .int .i64 0, .bool false, .bool false, .bool false, .bool false, .slice none 0 0, .slice none 0 0, .int .i64 0, .int .i64 0, .int .i64 0, .int .i64 0, .int .i64 0, .int .i64 0, .int .i64 0, .int .i64 0, .int .i64 0, .slice none 0 0, .bool false, .int .i64 0, .int .i64 0, .slice none 0 0, .int .i64 0, .int .i64 0, .bool false, .bool false, .bool false, .bool false, .slice none 0 0, .slice none 0 0, .int .i64 0, .int .i64 0]], []⟩ 8 (by kernel_rfl) (by kernel_rfl) (by kernel_rfl) (by kernel_rfl)) ?_
  intro W base args ds gs before hval0 hW _ _
  have hval : ∀ (j : Nat) t v, Try.f3.params[j]? = some t → args[j]? = some v → Value.okWide Try.prog W .any base t v := hval0
  have hW2 := hW
  obtain ⟨p, q, hA0, hV, rfl, _, _⟩ := hW2
  have hA : DataW.TrodAll enc Try.prog W 0 (fun _ => true) true Try.f3.params.toList args.toList ds p := hA0
  rw [Try.params3] at hA hval
  obtain ⟨v0, d0, rfl, rfl, h0⟩ := trodAll_one hA
  obtain ⟨rfl, rfl⟩ := trodVars_none hV
  obtain ⟨cs, d, rfl, hc, hf⟩ := open_link (hval 0 _ v0 rfl rfl) h0
  refine (FnExactLinkFlight_calls cs d W hc hf).mono fun e W' ⟨he, hb⟩ => ?_
  subst he
  exact ⟨_, rfl, law_post (f := Try.f3) (s := Rows.fnExactLinkFlightSpec) 4 laid_out (by kernel_rfl) rfl (by kernel_rfl) Try.underlying4 hW rfl hb⟩
theorem FnExactLinkFlight_holds : Rows.FnExactLinkFlightSaid :=
  OpenClaim.holds_of_wide 3 Try.f3 rfl rfl rfl rfl rfl rfl rfl ⟨rfl, rfl, rfl, rfl, rfl⟩ rfl rfl rfl rfl rfl (by kernel_rfl) Try.func3 (by kernel_rfl)
    (of_decide_eq_true (by kernel_rfl)) (by unfold Func.isWrapper; rw [if_neg (of_decide_eq_false (by kernel_rfl))]; exact ⟨rfl, rfl⟩)
    (fun os started H enc _ => FnExactLinkFlight_lifted os started H enc)

end Go.Proofs.Ytdnjdbafffifeaa
