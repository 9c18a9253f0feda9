/-
  FnExactPortIrq returns true for all ports: the program's PortIrq is the reference's, and leaves its argument alone.
-/
import Derived.Test.YtflimlalccmdnaaPortIrq
import Derived.Test.YtflimlalccmdnaaRowPortV
import Derived.StillTailTactics
set_option linter.unusedVariables false
set_option linter.unusedSimpArgs false
namespace Go.Proofs.Ytflimlalccmdnaa
open Go.ChangeShapes Go.WideShapes Go.ChangeAt Go.RowKit

set_option maxHeartbeats 2000000 in
theorem FnExactPortIrq_big (cs : List Value) (d : PortD) (w : World) (h : PortIs w cs d) (hf : d.fits) (k : d.left 1048576 < 0) :
    Calls Try.prog 3 #[.agg cs.toArray] w fun e w' => e = .returned (.bool true) ∧ Below w.heap.size w w' := by
  have HL := Lib.hid h.len
  have hz := szPortV cs d 1048576
  generalize d.left 1048576 = r at *
  have HZ := Lib.hid hz
  clear hz
  go_enter Try.func3, Try.ntmps3
  go_wp2_with (first | ((with_reducible refine at_load 33 (.tmp 1) rfl ?_); go_must (refine wpList_loadB (by repeat (first | (with_reducible exact (Blk.new w _ _)) | (with_reducible apply Blk.drew) | (with_reducible apply Blk.drewN) | (with_reducible apply Blk.alloc) | (with_reducible apply Blk.far) | omega | (focus (simp; done)) | (focus (simp; omega)))) 33 (.tmp 1) rfl (by rfl) 0 rfl (cs) (sub_all cs) Try.underlying33 rfl (sz_laws_Port.trans (congrArg some (Eq.symm (HL.out)))) ?_)) | (go_at_call 8; go_must ((with_reducible refine (HZ.out _ (h.below (by repeat (first | (with_reducible exact b_refl _) | (with_reducible refine b_alloc ?_ _) | (with_reducible refine b_drew ?_) | (with_reducible refine b_drewN ?_ _) | (with_reducible refine b_set ?_ ?_ _) | (with_reducible refine b_trans ?_ (by assumption)) | (with_reducible refine b_only ?_ (by assumption) ?_) | omega | (focus (simp; done)) | (focus (simp; omega))))) hf (by omega) (by omega)).mono ?_); rintro e w1 ⟨rfl, hb1⟩; have hz1 := hb1.size; (try simp at hz1))))
  go_ret
  exact ⟨rfl, (by repeat (first | (with_reducible exact b_refl _) | (with_reducible refine b_alloc ?_ _) | (with_reducible refine b_drew ?_) | (with_reducible refine b_drewN ?_ _) | (with_reducible refine b_set ?_ ?_ _) | (with_reducible refine b_trans ?_ (by assumption)) | (with_reducible refine b_only ?_ (by assumption) ?_) | omega | (focus (simp; done)) | (focus (simp; omega))))⟩
theorem wanted_intro {c : Bool} {A B : Prop} (h : c = true) (a : A) : if c = true then A else B := by rw [if_pos h]; exact a
set_option maxRecDepth 100000 in
set_option maxHeartbeats 4000000 in
theorem FnExactPortIrq_small (cs : List Value) (d : PortD) (w : World) (h : PortIs w cs d) (hf : d.fits) (hs : d.small) (k : ¬ d.left 1048576 < 0) :
    Calls Try.prog 3 #[.agg cs.toArray] w fun e w' => e = .returned (.bool true) ∧ Below w.heap.size w w' := by
  have HL := Lib.hid h.len
  have hz := szPortV cs d 1048576
  have hv1 := fun cs => spec_PortIrqW cs d
  have hv2 := fun cs => impl_PortIrqW cs d
  generalize d.left 1048576 = r at *
  generalize d.irq = v at *
  have HZ := Lib.hid hz
  have HV1 := Lib.hid hv1
  have HV2 := Lib.hid hv2
  clear hz hv1 hv2
  go_enter Try.func3, Try.ntmps3
  go_wp2_with ((with_reducible refine at_load 33 (.tmp 1) rfl ?_); go_must (refine wpList_loadB (by repeat (first | (with_reducible exact (Blk.new w _ _)) | (with_reducible apply Blk.drew) | (with_reducible apply Blk.drewN) | (with_reducible apply Blk.alloc) | (with_reducible apply Blk.far) | omega | (focus (simp; done)) | (focus (simp; omega)))) 33 (.tmp 1) rfl (by rfl) 0 rfl (cs) (sub_all cs) Try.underlying33 rfl (sz_laws_Port.trans (congrArg some (Eq.symm (HL.out)))) ?_))
  go_wp2_with fail
  (with_reducible refine (HZ.out _ (h.below (by repeat (first | (with_reducible exact b_refl _) | (with_reducible refine b_alloc ?_ _) | (with_reducible refine b_drew ?_) | (with_reducible refine b_drewN ?_ _) | (with_reducible refine b_set ?_ ?_ _) | (with_reducible refine b_trans ?_ (by assumption)) | (with_reducible refine b_only ?_ (by assumption) ?_) | omega | (focus (simp; done)) | (focus (simp; omega))))) hf (by omega) (by omega)).mono ?_); rintro e w1 ⟨rfl, hb1⟩; have hz1 := hb1.size; (try simp at hz1); have F1 := (Blk.new w _ _).below hb1 (by first | omega | (simp; done) | (simp; omega)); (try simp only [World.size_alloc, List.setIfInBounds_toArray, List.set_cons_zero, List.set_cons_succ] at F1); have F1l := F1.lt; (try simp only [World.size_alloc] at F1l)
  go_wp2_with ((with_reducible refine at_load 33 (.tmp 1) rfl ?_); go_must (refine wpList_loadB (by repeat (first | (with_reducible exact F1) | (with_reducible apply Blk.drew) | (with_reducible apply Blk.drewN) | (with_reducible apply Blk.alloc) | (with_reducible apply Blk.far) | omega | (focus (simp; done)) | (focus (simp; omega)))) 33 (.tmp 1) rfl (by rfl) 0 rfl (cs) (sub_all cs) Try.underlying33 rfl (sz_laws_Port.trans (congrArg some (Eq.symm (HL.out)))) ?_))
  go_wp2_with fail
  (with_reducible refine (toPortV cs d _ (h.below (by repeat (first | (with_reducible exact b_refl _) | (with_reducible refine b_alloc ?_ _) | (with_reducible refine b_drew ?_) | (with_reducible refine b_drewN ?_ _) | (with_reducible refine b_set ?_ ?_ _) | (with_reducible refine b_trans ?_ (by assumption)) | (with_reducible refine b_only ?_ (by assumption) ?_) | omega | (focus (simp; done)) | (focus (simp; omega))))) hs).mono ?_); rintro e w2 ⟨cs2, rfl, own2, hb2⟩; have hz2 := hb2.size; (try simp at hz2); have F2 := Blk.lift F1 hb2 (by repeat (first | (with_reducible exact F1) | (with_reducible refine Blk.drew ?_) | (with_reducible refine Blk.drewN ?_ _) | (with_reducible refine Blk.alloc ?_ _) | (with_reducible refine Blk.far ?_ ?_ _) | omega | (focus (simp; done)) | (focus (simp; omega)))); (try simp only [World.size_alloc, List.setIfInBounds_toArray, List.set_cons_zero, List.set_cons_succ] at F2); have F2l := F2.lt; (try simp only [World.size_alloc] at F2l)
  go_wp2_with fail
  (with_reducible refine (HV1.out cs2 _ own2.is hs v rfl).mono ?_); rintro e w3 ⟨rfl, hb3⟩; have hz3 := hb3.size; (try simp at hz3); have F3 := Blk.lift F2 hb3 (by repeat (first | (with_reducible exact F2) | (with_reducible refine Blk.drew ?_) | (with_reducible refine Blk.drewN ?_ _) | (with_reducible refine Blk.alloc ?_ _) | (with_reducible refine Blk.far ?_ ?_ _) | omega | (focus (simp; done)) | (focus (simp; omega)))); (try simp only [World.size_alloc, List.setIfInBounds_toArray, List.set_cons_zero, List.set_cons_succ] at F3); have F3l := F3.lt; (try simp only [World.size_alloc] at F3l)
  go_wp2_with ((with_reducible refine at_load 33 (.tmp 1) rfl ?_); go_must (refine wpList_loadB (by repeat (first | (with_reducible exact F3) | (with_reducible apply Blk.drew) | (with_reducible apply Blk.drewN) | (with_reducible apply Blk.alloc) | (with_reducible apply Blk.far) | omega | (focus (simp; done)) | (focus (simp; omega)))) 33 (.tmp 1) rfl (by rfl) 0 rfl (cs) (sub_all cs) Try.underlying33 rfl (sz_laws_Port.trans (congrArg some (Eq.symm (HL.out)))) ?_))
  go_wp2_with fail
  (with_reducible refine (toPortV cs d _ (h.below (by repeat (first | (with_reducible exact b_refl _) | (with_reducible refine b_alloc ?_ _) | (with_reducible refine b_drew ?_) | (with_reducible refine b_drewN ?_ _) | (with_reducible refine b_set ?_ ?_ _) | (with_reducible refine b_trans ?_ (by assumption)) | (with_reducible refine b_only ?_ (by assumption) ?_) | omega | (focus (simp; done)) | (focus (simp; omega))))) hs).mono ?_); rintro e w4 ⟨cs4, rfl, own4, hb4⟩; have hz4 := hb4.size; (try simp at hz4); have F4 := Blk.lift F3 hb4 (by repeat (first | (with_reducible exact F3) | (with_reducible refine Blk.drew ?_) | (with_reducible refine Blk.drewN ?_ _) | (with_reducible refine Blk.alloc ?_ _) | (with_reducible refine Blk.far ?_ ?_ _) | omega | (focus (simp; done)) | (focus (simp; omega)))); (try simp only [World.size_alloc, List.setIfInBounds_toArray, List.set_cons_zero, List.set_cons_succ] at F4); have F4l := F4.lt; (try simp only [World.size_alloc] at F4l)
  have l4 := Lib.hid own4.len
  have o4 := Lib.hid own4.is.one
  go_wp2_with (first | ((with_reducible refine at_store 43 (.tmp 5) (.tmp 16) rfl ?_); go_must (refine wpList_storeB (Blk.now (Blk.new w4 _ _) (by repeat (first | (with_reducible exact (Blk.new w4 _ _)) | (with_reducible refine Blk.drew ?_) | (with_reducible refine Blk.drewN ?_ _) | (with_reducible refine Blk.alloc ?_ _) | (with_reducible refine Blk.far ?_ ?_ _) | omega | (focus (simp; done)) | (focus (simp; omega))))) 43 (.tmp 5) (.tmp 16) rfl (by rfl) 0 rfl (cs4) rfl (sz_impl_Port.trans (congrArg some (Eq.symm (l4.out)))) (o4.out) ((by rw [l4.out]; simp)) (cs4) (st_all (by rw [l4.out]; rfl)) ?_; intro w5 N5 ho5; have hz5 := ho5.size; (try simp at hz5); have F5 := Blk.liftO F4 ho5 (by repeat (first | (with_reducible exact F4) | (with_reducible refine Blk.drew ?_) | (with_reducible refine Blk.drewN ?_ _) | (with_reducible refine Blk.alloc ?_ _) | (with_reducible refine Blk.far ?_ ?_ _) | omega | (focus (simp; done)) | (focus (simp; omega)))) (by first | omega | (simp; done) | (simp; omega)); (try simp only [World.size_alloc, List.setIfInBounds_toArray, List.set_cons_zero, List.set_cons_succ] at F5); have F5l := F5.lt; (try simp only [World.size_alloc] at F5l); have X5 := N5; (try simp only [World.size_alloc, List.setIfInBounds_toArray, List.set_cons_zero, List.set_cons_succ] at X5); have X5l := X5.lt; (try simp only [World.size_alloc] at X5l))) | ((with_reducible refine at_load 43 (.tmp 5) rfl ?_); go_must (refine wpList_loadB (by repeat (first | (with_reducible exact X5) | (with_reducible apply Blk.drew) | (with_reducible apply Blk.drewN) | (with_reducible apply Blk.alloc) | (with_reducible apply Blk.far) | omega | (focus (simp; done)) | (focus (simp; omega)))) 43 (.tmp 5) rfl (by rfl) 0 rfl (cs4) (sub_all cs4) Try.underlying43 rfl (sz_impl_Port.trans (congrArg some (Eq.symm (l4.out)))) ?_)))
  have h5 : PortIs w5 cs4 d := own4.is.below (b_only (b_alloc (b_refl w4) _) ho5 (Nat.le_refl _))
  go_wp2_with fail
  (with_reducible refine (HV2.out cs4 _ (h5.below (by repeat (first | (with_reducible exact b_refl _) | (with_reducible refine b_alloc ?_ _) | (with_reducible refine b_drew ?_) | (with_reducible refine b_drewN ?_ _) | (with_reducible refine b_set ?_ ?_ _) | (with_reducible refine b_trans ?_ (by assumption)) | (with_reducible refine b_only ?_ (by assumption) ?_) | omega | (focus (simp; done)) | (focus (simp; omega))))) hs v rfl).mono ?_); rintro e w6 ⟨rfl, hb6⟩; have hz6 := hb6.size; (try simp at hz6); have F6 := Blk.lift F5 hb6 (by repeat (first | (with_reducible exact F5) | (with_reducible refine Blk.drew ?_) | (with_reducible refine Blk.drewN ?_ _) | (with_reducible refine Blk.alloc ?_ _) | (with_reducible refine Blk.far ?_ ?_ _) | omega | (focus (simp; done)) | (focus (simp; omega)))); (try simp only [World.size_alloc, List.setIfInBounds_toArray, List.set_cons_zero, List.set_cons_succ] at F6); have F6l := F6.lt; (try simp only [World.size_alloc] at F6l); have X6 := Blk.lift X5 hb6 (by repeat (first | (with_reducible exact X5) | (with_reducible refine Blk.drew ?_) | (with_reducible refine Blk.drewN ?_ _) | (with_reducible refine Blk.alloc ?_ _) | (with_reducible refine Blk.far ?_ ?_ _) | omega | (focus (simp; done)) | (focus (simp; omega)))); (try simp only [World.size_alloc, List.setIfInBounds_toArray, List.set_cons_zero, List.set_cons_succ] at X6); have X6l := X6.lt; (try simp only [World.size_alloc] at X6l)
  have h6 : PortIs w6 cs4 d := h5.below (by repeat (first | (with_reducible exact b_refl _) | (with_reducible refine b_alloc ?_ _) | (with_reducible refine b_drew ?_) | (with_reducible refine b_drewN ?_ _) | (with_reducible refine b_set ?_ ?_ _) | (with_reducible refine b_trans ?_ (by assumption)) | (with_reducible refine b_only ?_ (by assumption) ?_) | omega | (focus (simp; done)) | (focus (simp; omega))))
  go_wp2
  refine wp_region_any (by kernel_rfl) ?_
  change wpAny _ _ _ _ _ _ _ (World.drew _)
  refine wpAny_ready (rs := [0, 1]) (by kernel_rfl) (by simp) ?_
  refine AllReady.cons rfl (fun K hK => ?_) ?_
  · refine wanted_intro (by first | rfl | kernel_rfl) ?_
    refine wp_load_mid 43 (.tmp 5) rfl w4.heap.size 0 rfl cs4 _ (Blk.range (Blk.drew X6) 0 (sub_all cs4)) Try.underlying43 rfl (sz_impl_Port.trans (congrArg some l4.out.symm)) ?_
    refine hK _ _ ?_
    refine wpAny_ready (rs := [1]) (by kernel_rfl) (by simp) ?_
    refine AllReady.cons rfl (fun K hK => ?_) AllReady.nil
    refine wanted_intro (by first | rfl | kernel_rfl) ?_
    refine wp_load_mid 33 (.tmp 1) rfl w.heap.size 0 rfl cs _ (Blk.range (Blk.drew F6) 0 (sub_all cs)) Try.underlying33 rfl (sz_laws_Port.trans (congrArg some HL.out.symm)) ?_
    refine hK _ _ ?_
    refine wpAny_ready (rs := [2]) (by kernel_rfl) (by simp) ?_
    refine AllReady.cons rfl (fun K hK => ?_) AllReady.nil
    go_simp
    (with_reducible refine (toPortV cs d _ (h.below (by repeat (first | (with_reducible exact b_refl _) | (with_reducible refine b_alloc ?_ _) | (with_reducible refine b_drew ?_) | (with_reducible refine b_drewN ?_ _) | (with_reducible refine b_set ?_ ?_ _) | (with_reducible refine b_trans ?_ (by assumption)) | (with_reducible refine b_only ?_ (by assumption) ?_) | omega | (focus (simp; done)) | (focus (simp; omega))))) hs).mono ?_); rintro e w7 ⟨cs7, rfl, own7, hb7⟩
    go_wp2
    refine wpAny_ready (rs := [3]) (by kernel_rfl) (by simp) ?_
    refine AllReady.cons rfl (fun K hK => ?_) AllReady.nil
    go_simp
    (with_reducible refine (eqPortV cs4 cs7 d _ (h6.below (by repeat (first | (with_reducible exact b_refl _) | (with_reducible refine b_alloc ?_ _) | (with_reducible refine b_drew ?_) | (with_reducible refine b_drewN ?_ _) | (with_reducible refine b_set ?_ ?_ _) | (with_reducible refine b_trans ?_ (by assumption)) | (with_reducible refine b_only ?_ (by assumption) ?_) | omega | (focus (simp; done)) | (focus (simp; omega))))) own7.is hs).mono ?_); rintro e w8 ⟨rfl, hb8⟩
    go_wp2
    refine wpAny_ready (rs := [4]) (by kernel_rfl) (by simp) ?_
    refine AllReady.cons rfl (fun K hK => ?_) AllReady.nil
    go_simp
    refine hK _ _ ?_
    refine wpAny_done (by kernel_rfl) ?_ _
    go_wp2
    go_ret
    exact ⟨rfl, (by repeat (first | (with_reducible exact b_refl _) | (with_reducible refine b_alloc ?_ _) | (with_reducible refine b_drew ?_) | (with_reducible refine b_drewN ?_ _) | (with_reducible refine b_set ?_ ?_ _) | (with_reducible refine b_trans ?_ (by assumption)) | (with_reducible refine b_only ?_ (by assumption) ?_) | omega | (focus (simp; done)) | (focus (simp; omega))))⟩
  refine AllReady.cons rfl (fun K hK => ?_) AllReady.nil
  refine wanted_intro (by first | rfl | kernel_rfl) ?_
  refine wp_load_mid 33 (.tmp 1) rfl w.heap.size 0 rfl cs _ (Blk.range (Blk.drew F6) 0 (sub_all cs)) Try.underlying33 rfl (sz_laws_Port.trans (congrArg some HL.out.symm)) ?_
  refine hK _ _ ?_
  refine wpAny_ready (rs := [0, 2]) (by kernel_rfl) (by simp) ?_
  refine AllReady.cons rfl (fun K hK => ?_) ?_
  · refine wanted_intro (by first | rfl | kernel_rfl) ?_
    refine wp_load_mid 43 (.tmp 5) rfl w4.heap.size 0 rfl cs4 _ (Blk.range (Blk.drew X6) 0 (sub_all cs4)) Try.underlying43 rfl (sz_impl_Port.trans (congrArg some l4.out.symm)) ?_
    refine hK _ _ ?_
    refine wpAny_ready (rs := [2]) (by kernel_rfl) (by simp) ?_
    refine AllReady.cons rfl (fun K hK => ?_) AllReady.nil
    go_simp
    (with_reducible refine (toPortV cs d _ (h.below (by repeat (first | (with_reducible exact b_refl _) | (with_reducible refine b_alloc ?_ _) | (with_reducible refine b_drew ?_) | (with_reducible refine b_drewN ?_ _) | (with_reducible refine b_set ?_ ?_ _) | (with_reducible refine b_trans ?_ (by assumption)) | (with_reducible refine b_only ?_ (by assumption) ?_) | omega | (focus (simp; done)) | (focus (simp; omega))))) hs).mono ?_); rintro e w7 ⟨cs7, rfl, own7, hb7⟩
    go_wp2
    refine wpAny_ready (rs := [3]) (by kernel_rfl) (by simp) ?_
    refine AllReady.cons rfl (fun K hK => ?_) AllReady.nil
    go_simp
    (with_reducible refine (eqPortV cs4 cs7 d _ (h6.below (by repeat (first | (with_reducible exact b_refl _) | (with_reducible refine b_alloc ?_ _) | (with_reducible refine b_drew ?_) | (with_reducible refine b_drewN ?_ _) | (with_reducible refine b_set ?_ ?_ _) | (with_reducible refine b_trans ?_ (by assumption)) | (with_reducible refine b_only ?_ (by assumption) ?_) | omega | (focus (simp; done)) | (focus (simp; omega))))) own7.is hs).mono ?_); rintro e w8 ⟨rfl, hb8⟩
    go_wp2
    refine wpAny_ready (rs := [4]) (by kernel_rfl) (by simp) ?_
    refine AllReady.cons rfl (fun K hK => ?_) AllReady.nil
    go_simp
    refine hK _ _ ?_
    refine wpAny_done (by kernel_rfl) ?_ _
    go_wp2
    go_ret
    exact ⟨rfl, (by repeat (first | (with_reducible exact b_refl _) | (with_reducible refine b_alloc ?_ _) | (with_reducible refine b_drew ?_) | (with_reducible refine b_drewN ?_ _) | (with_reducible refine b_set ?_ ?_ _) | (with_reducible refine b_trans ?_ (by assumption)) | (with_reducible refine b_only ?_ (by assumption) ?_) | omega | (focus (simp; done)) | (focus (simp; omega))))⟩
  refine AllReady.cons rfl (fun K hK => ?_) AllReady.nil
  go_simp
  (with_reducible refine (toPortV cs d _ (h.below (by repeat (first | (with_reducible exact b_refl _) | (with_reducible refine b_alloc ?_ _) | (with_reducible refine b_drew ?_) | (with_reducible refine b_drewN ?_ _) | (with_reducible refine b_set ?_ ?_ _) | (with_reducible refine b_trans ?_ (by assumption)) | (with_reducible refine b_only ?_ (by assumption) ?_) | omega | (focus (simp; done)) | (focus (simp; omega))))) hs).mono ?_); rintro e w7 ⟨cs7, rfl, own7, hb7⟩
  go_wp2
  refine wpAny_ready (rs := [0]) (by kernel_rfl) (by simp) ?_
  refine AllReady.cons rfl (fun K hK => ?_) AllReady.nil
  refine wanted_intro (by first | rfl | kernel_rfl) ?_
  refine wp_load_mid 43 (.tmp 5) rfl w4.heap.size 0 rfl cs4 _ (Blk.range ((Blk.drew X6).below hb7 (Blk.drew X6).lt) 0 (sub_all cs4)) Try.underlying43 rfl (sz_impl_Port.trans (congrArg some l4.out.symm)) ?_
  refine hK _ _ ?_
  refine wpAny_ready (rs := [3]) (by kernel_rfl) (by simp) ?_
  refine AllReady.cons rfl (fun K hK => ?_) AllReady.nil
  go_simp
  (with_reducible refine (eqPortV cs4 cs7 d _ (h6.below (by repeat (first | (with_reducible exact b_refl _) | (with_reducible refine b_alloc ?_ _) | (with_reducible refine b_drew ?_) | (with_reducible refine b_drewN ?_ _) | (with_reducible refine b_set ?_ ?_ _) | (with_reducible refine b_trans ?_ (by assumption)) | (with_reducible refine b_only ?_ (by assumption) ?_) | omega | (focus (simp; done)) | (focus (simp; omega))))) own7.is hs).mono ?_); rintro e w8 ⟨rfl, hb8⟩
  go_wp2
  refine wpAny_ready (rs := [4]) (by kernel_rfl) (by simp) ?_
  refine AllReady.cons rfl (fun K hK => ?_) AllReady.nil
  go_simp
  refine hK _ _ ?_
  refine wpAny_done (by kernel_rfl) ?_ _
  go_wp2
  go_ret
  exact ⟨rfl, (by repeat (first | (with_reducible exact b_refl _) | (with_reducible refine b_alloc ?_ _) | (with_reducible refine b_drew ?_) | (with_reducible refine b_drewN ?_ _) | (with_reducible refine b_set ?_ ?_ _) | (with_reducible refine b_trans ?_ (by assumption)) | (with_reducible refine b_only ?_ (by assumption) ?_) | omega | (focus (simp; done)) | (focus (simp; omega))))⟩
theorem FnExactPortIrq_calls (cs : List Value) (d : PortD) (w : World) (h : PortIs w cs d) (hf : d.fits) :
    Calls Try.prog 3 #[.agg cs.toArray] w fun e w' => e = .returned (.bool true) ∧ Below w.heap.size w w' := by
  by_cases k : d.left 1048576 < 0
  · exact FnExactPortIrq_big cs d w h hf k
  · exact FnExactPortIrq_small cs d w h hf (PortD.left_ok (by omega) (Int.not_lt.1 k)).1 k
set_option maxRecDepth 100000 in
set_option maxRecDepth 100000 in
theorem FnExactPortIrq_lifted (os : Os) (started : os.Started) (H : Type) (enc : TypeId × Value → H) :
    ReturnsInHanded {} Try.checked os 3 .any (Rows.fnExactPortIrqSpec.pre6 enc Try.prog Try.f3 Rows.fnExactPortIrqRow.domain false) (Rows.fnExactPortIrqSpec.post enc Try.prog Try.f3 false true false false) := by
  refine returnsInHanded_of_change (C := Try.checked) own started (by kernel_rfl) Try.func3
    (ChangeSpec.witness6 (enc := enc) (C := Try.checked) false ⟨#[], #[.agg #[.int .i64 0, .int .i64 0, .int .i64 0, .int .i64 0, .int .i64 0, .int .i64 0, .int .i64 0, .slice none 0 0, .bool false, .int .i64 0, .int .i64 0, .slice none 0 0, .int .i64 0, .int .i64 0, .bool false, .bool false, .bool false, .bool false]], []⟩ 8 (by kernel_rfl) (by kernel_rfl) (by kernel_rfl) (by kernel_rfl)) ?_
  intro W base args ds gs before hval0 hW _ _
  have hval : ∀ (j : Nat) t v, Try.f3.params[j]? = some t → args[j]? = some v → Value.okWide Try.prog W .any base t v := hval0
  have hW2 := hW
  obtain ⟨p, q, hA0, hV, rfl, _, _⟩ := hW2
  have hA : DataW.TrodAll enc Try.prog W 0 (fun _ => true) true Try.f3.params.toList args.toList ds p := hA0
  rw [Try.params3] at hA hval
  obtain ⟨v0, d0, rfl, rfl, h0⟩ := trodAll_one hA
  obtain ⟨rfl, rfl⟩ := trodVars_none hV
  obtain ⟨cs, d, rfl, hc, hf⟩ := open_portV (hval 0 _ v0 rfl rfl) h0
  refine (FnExactPortIrq_calls cs d W hc hf).mono fun e W' ⟨he, hb⟩ => ?_
  subst he
  exact ⟨_, rfl, law_post (f := Try.f3) (s := Rows.fnExactPortIrqSpec) 4 laid_out (by kernel_rfl) rfl (by kernel_rfl) Try.underlying4 hW rfl hb⟩
theorem FnExactPortIrq_holds : Rows.FnExactPortIrqSaid :=
  OpenClaim.holds_of_wide 3 Try.f3 rfl rfl rfl rfl rfl rfl rfl ⟨rfl, rfl, rfl, rfl, rfl⟩ rfl rfl rfl rfl rfl (by kernel_rfl) Try.func3 (by kernel_rfl)
    (of_decide_eq_true (by kernel_rfl)) (by unfold Func.isWrapper; rw [if_neg (of_decide_eq_false (by kernel_rfl))]; exact ⟨rfl, rfl⟩)
    (fun os started H enc _ => FnExactPortIrq_lifted os started H enc)

end Go.Proofs.Ytflimlalccmdnaa
