/-
  PairQuiet (the program's and the reference's). Condition: at most 2^20 elements.
-/
import Derived.Test.YtpbhidlglcmlnaaPair
set_option linter.unusedVariables false
set_option linter.unusedSimpArgs false
namespace Go.Proofs.Ytpbhidlglcmlnaa
open Go.ChangeShapes Go.WideShapes Go.ChangeAt Go.RowKit

def PortD.status (d : PortD) : Int := sendStatus d.sr d.xs d.sh d.sl
def PairD.quiet (d : PairD) : Bool := d.ok && decide (d.a.status = 96) && decide (d.b.status = 96)
/-- The four cells of the sender. -/
theorem PortIs.send {w : World} {vs : List Value} {d : PortD} (h : PortIs w vs d) : ∃ (SA : Option Addr) (sn sc : Nat), (vs.drop 10).take 4 = [.int .i64 d.sr, .slice SA sn sc, .int .i64 d.sh, .int .i64 d.sl] ∧ Ints w SA sn d.xs := by
  obtain ⟨RA, SA, rn, sn, rc, sc, rfl, hg, hx⟩ := h
  exact ⟨SA, sn, sc, rfl, hx⟩
theorem sub_in_l {cs a b vs : List Value} {n o : Nat} (h : cs = a ++ b) (ha : a.length = n) (hs : (a.drop o).take vs.length = vs) (ho : o + vs.length ≤ n) : (cs.toArray.toList.drop o).take vs.length = vs := by
  subst h; subst ha
  show ((a ++ b).drop o).take vs.length = vs
  rw [List.drop_append_of_le_length (by omega), List.take_append_of_le_length (by rw [List.length_drop]; omega)]
  exact hs
theorem sub_in_r {cs a b vs : List Value} {n o : Nat} (h : cs = a ++ b) (ha : a.length = n) (hs : (b.drop o).take vs.length = vs) : (cs.toArray.toList.drop (n + o)).take vs.length = vs := by
  subst h; subst ha
  show ((a ++ b).drop (a.length + o)).take vs.length = vs
  rw [← List.drop_drop, List.drop_left]
  exact hs
set_option maxHeartbeats 2000000 in
theorem spec_PairQuietW (cs : List Value) (d : PairD) (w : World) (h : PairIs w cs d) (hs : d.small) (v : Bool) (hv : d.quiet = v) :
    Calls Try.prog 28 #[.agg cs.toArray] w fun e w' => e = .returned (.bool v) ∧ Below w.heap.size w w' := by
  subst hv
  have hl := Lib.hid h.len
  have hv := spec_PairValidV cs d
  rw [PairD.quiet]
  generalize d.ok = ok at *
  have HV := Lib.hid hv
  clear hv
  have h0 := h
  obtain ⟨va, vb, e, ha, hb⟩ := h
  have E := Lib.hid e
  have la := Lib.hid ha.len
  have lb := Lib.hid hb.len
  clear e
  have s1 : d.a.xs.length ≤ 1048576 := hs.1.2
  have s2 : d.b.xs.length ≤ 1048576 := hs.2.2
  obtain ⟨SA, na, ca, ea, xa⟩ := ha.send
  obtain ⟨SB, nb, cb, eb, xb⟩ := hb.send
  have EA := Lib.hid ea
  have EB := Lib.hid eb
  have n1 : na ≤ 1099511627776 := by have := xa.len; omega
  have n2 : nb ≤ 1099511627776 := by have := xb.len; omega
  have HS := Lib.hid hs
  have c1 := fun w h => spec_SendStatus d.a.sr SA na ca d.a.sh d.a.sl d.a.xs w h n1
  have c2 := fun w h => spec_SendStatus d.b.sr SB nb cb d.b.sh d.b.sl d.b.xs w h n2
  change ∀ w h, Calls _ _ _ w fun e w' => e = .returned (.int .i64 d.a.status) ∧ _ at c1
  change ∀ w h, Calls _ _ _ w fun e w' => e = .returned (.int .i64 d.b.status) ∧ _ at c2
  generalize d.a.status = ta at *
  generalize d.b.status = tb at *
  have C1 := Lib.hid c1
  have C2 := Lib.hid c2
  clear ea eb c1 c2 s1 s2 hs ha hb
  cases ok
  case' false =>
    go_enter Try.func28, Try.ntmps28
    go_wp2_with (first | ((with_reducible refine at_load 56 (.tmp 1) rfl ?_); go_must (refine wpList_loadB (by repeat (first | (with_reducible exact (Blk.new w _ _)) | (with_reducible apply Blk.drew) | (with_reducible apply Blk.drewN) | (with_reducible apply Blk.alloc) | (with_reducible apply Blk.far) | omega | (focus (simp; done)) | (focus (simp; omega)))) 56 (.tmp 1) rfl (by rfl) 0 rfl (cs) (sub_all cs) Try.underlying56 rfl (sz_impl_Pair.trans (congrArg some (Eq.symm (hl.out)))) ?_)) | (go_at_call 24; go_must ((with_reducible refine (HV.out _ (h0.below (by repeat (first | (with_reducible exact b_refl _) | (with_reducible refine b_alloc ?_ _) | (with_reducible refine b_drew ?_) | (with_reducible refine b_drewN ?_ _) | (with_reducible refine b_set ?_ ?_ _) | (with_reducible refine b_trans ?_ (by assumption)) | (with_reducible refine b_only ?_ (by assumption) ?_) | omega | (focus (simp; done)) | (focus (simp; omega))))) HS.out false rfl).mono ?_); rintro e w1 ⟨rfl, hb1⟩; have hz1 := hb1.size; (try simp at hz1); have F1 := (Blk.new w _ _).below hb1 (by first | omega | (simp; done) | (simp; omega)); (try simp only [World.size_alloc, List.setIfInBounds_toArray, List.set_cons_zero, List.set_cons_succ] at F1); have F1l := F1.lt; (try simp only [World.size_alloc] at F1l))))
    go_ret
    exact ⟨rfl, (by repeat (first | (with_reducible exact b_refl _) | (with_reducible refine b_alloc ?_ _) | (with_reducible refine b_drew ?_) | (with_reducible refine b_drewN ?_ _) | (with_reducible refine b_set ?_ ?_ _) | (with_reducible refine b_trans ?_ (by assumption)) | (with_reducible refine b_only ?_ (by assumption) ?_) | omega | (focus (simp; done)) | (focus (simp; omega))))⟩
  by_cases k : ta = 96
  · subst k
    go_enter Try.func28, Try.ntmps28
    go_wp2_with (first | ((with_reducible refine at_load 56 (.tmp 1) rfl ?_); go_must (refine wpList_loadB (by repeat (first | (with_reducible exact (Blk.new w _ _)) | (with_reducible apply Blk.drew) | (with_reducible apply Blk.drewN) | (with_reducible apply Blk.alloc) | (with_reducible apply Blk.far) | omega | (focus (simp; done)) | (focus (simp; omega)))) 56 (.tmp 1) rfl (by rfl) 0 rfl (cs) (sub_all cs) Try.underlying56 rfl (sz_impl_Pair.trans (congrArg some (Eq.symm (hl.out)))) ?_)) | (go_at_call 24; go_must ((with_reducible refine (HV.out _ (h0.below (by repeat (first | (with_reducible exact b_refl _) | (with_reducible refine b_alloc ?_ _) | (with_reducible refine b_drew ?_) | (with_reducible refine b_drewN ?_ _) | (with_reducible refine b_set ?_ ?_ _) | (with_reducible refine b_trans ?_ (by assumption)) | (with_reducible refine b_only ?_ (by assumption) ?_) | omega | (focus (simp; done)) | (focus (simp; omega))))) HS.out true rfl).mono ?_); rintro e w1 ⟨rfl, hb1⟩; have hz1 := hb1.size; (try simp at hz1); have F1 := (Blk.new w _ _).below hb1 (by first | omega | (simp; done) | (simp; omega)); (try simp only [World.size_alloc, List.setIfInBounds_toArray, List.set_cons_zero, List.set_cons_succ] at F1); have F1l := F1.lt; (try simp only [World.size_alloc] at F1l))) | ((with_reducible refine at_load 29 (.tmp 7) rfl ?_); go_must (refine wpList_loadB (by repeat (first | (with_reducible exact F1) | (with_reducible apply Blk.drew) | (with_reducible apply Blk.drewN) | (with_reducible apply Blk.alloc) | (with_reducible apply Blk.far) | omega | (focus (simp; done)) | (focus (simp; omega)))) 29 (.tmp 7) rfl (by rfl) 10 rfl ([.int .i64 d.a.sr, .slice SA na ca, .int .i64 d.a.sh, .int .i64 d.a.sl]) (sub_in_l E.out la.out EA.out (by simp)) Try.underlying29 rfl (sz_impl_Sender.trans (congrArg some (Eq.symm ((rfl : _ = 4))))) ?_)) | (go_at_call_of 71 SA; go_must ((with_reducible refine (C1.out _ (xa.below (by repeat (first | (with_reducible exact b_refl _) | (with_reducible refine b_alloc ?_ _) | (with_reducible refine b_drew ?_) | (with_reducible refine b_drewN ?_ _) | (with_reducible refine b_set ?_ ?_ _) | (with_reducible refine b_trans ?_ (by assumption)) | (with_reducible refine b_only ?_ (by assumption) ?_) | omega | (focus (simp; done)) | (focus (simp; omega)))))).mono ?_); rintro e w2 ⟨rfl, hb2⟩; have hz2 := hb2.size; (try simp at hz2); have F2 := Blk.lift F1 hb2 (by repeat (first | (with_reducible exact F1) | (with_reducible refine Blk.drew ?_) | (with_reducible refine Blk.drewN ?_ _) | (with_reducible refine Blk.alloc ?_ _) | (with_reducible refine Blk.far ?_ ?_ _) | omega | (focus (simp; done)) | (focus (simp; omega)))); (try simp only [World.size_alloc, List.setIfInBounds_toArray, List.set_cons_zero, List.set_cons_succ] at F2); have F2l := F2.lt; (try simp only [World.size_alloc] at F2l))) | ((with_reducible refine at_load 29 (.tmp 14) rfl ?_); go_must (refine wpList_loadB (by repeat (first | (with_reducible exact F2) | (with_reducible apply Blk.drew) | (with_reducible apply Blk.drewN) | (with_reducible apply Blk.alloc) | (with_reducible apply Blk.far) | omega | (focus (simp; done)) | (focus (simp; omega)))) 29 (.tmp 14) rfl (by rfl) 28 rfl ([.int .i64 d.b.sr, .slice SB nb cb, .int .i64 d.b.sh, .int .i64 d.b.sl]) (sub_in_r (o := 10) E.out la.out EB.out) Try.underlying29 rfl (sz_impl_Sender.trans (congrArg some (Eq.symm ((rfl : _ = 4))))) ?_)) | (go_at_call_of 71 SB; go_must ((with_reducible refine (C2.out _ (xb.below (by repeat (first | (with_reducible exact b_refl _) | (with_reducible refine b_alloc ?_ _) | (with_reducible refine b_drew ?_) | (with_reducible refine b_drewN ?_ _) | (with_reducible refine b_set ?_ ?_ _) | (with_reducible refine b_trans ?_ (by assumption)) | (with_reducible refine b_only ?_ (by assumption) ?_) | omega | (focus (simp; done)) | (focus (simp; omega)))))).mono ?_); rintro e w3 ⟨rfl, hb3⟩; have hz3 := hb3.size; (try simp at hz3))))
    all_goals
      go_ret
      refine ⟨ret_bool ?_, (by repeat (first | (with_reducible exact b_refl _) | (with_reducible refine b_alloc ?_ _) | (with_reducible refine b_drew ?_) | (with_reducible refine b_drewN ?_ _) | (with_reducible refine b_set ?_ ?_ _) | (with_reducible refine b_trans ?_ (by assumption)) | (with_reducible refine b_only ?_ (by assumption) ?_) | omega | (focus (simp; done)) | (focus (simp; omega))))⟩
      simp_all
      try rfl
  · have k2 : (ta == 96) = false := by simpa using k
    rw [show (decide (ta = 96)) = false by simpa using k]
    clear k
    go_enter Try.func28, Try.ntmps28
    go_wp2_with (first | ((with_reducible refine at_load 56 (.tmp 1) rfl ?_); go_must (refine wpList_loadB (by repeat (first | (with_reducible exact (Blk.new w _ _)) | (with_reducible apply Blk.drew) | (with_reducible apply Blk.drewN) | (with_reducible apply Blk.alloc) | (with_reducible apply Blk.far) | omega | (focus (simp; done)) | (focus (simp; omega)))) 56 (.tmp 1) rfl (by rfl) 0 rfl (cs) (sub_all cs) Try.underlying56 rfl (sz_impl_Pair.trans (congrArg some (Eq.symm (hl.out)))) ?_)) | (go_at_call 24; go_must ((with_reducible refine (HV.out _ (h0.below (by repeat (first | (with_reducible exact b_refl _) | (with_reducible refine b_alloc ?_ _) | (with_reducible refine b_drew ?_) | (with_reducible refine b_drewN ?_ _) | (with_reducible refine b_set ?_ ?_ _) | (with_reducible refine b_trans ?_ (by assumption)) | (with_reducible refine b_only ?_ (by assumption) ?_) | omega | (focus (simp; done)) | (focus (simp; omega))))) HS.out true rfl).mono ?_); rintro e w1 ⟨rfl, hb1⟩; have hz1 := hb1.size; (try simp at hz1); have F1 := (Blk.new w _ _).below hb1 (by first | omega | (simp; done) | (simp; omega)); (try simp only [World.size_alloc, List.setIfInBounds_toArray, List.set_cons_zero, List.set_cons_succ] at F1); have F1l := F1.lt; (try simp only [World.size_alloc] at F1l))) | ((with_reducible refine at_load 29 (.tmp 7) rfl ?_); go_must (refine wpList_loadB (by repeat (first | (with_reducible exact F1) | (with_reducible apply Blk.drew) | (with_reducible apply Blk.drewN) | (with_reducible apply Blk.alloc) | (with_reducible apply Blk.far) | omega | (focus (simp; done)) | (focus (simp; omega)))) 29 (.tmp 7) rfl (by rfl) 10 rfl ([.int .i64 d.a.sr, .slice SA na ca, .int .i64 d.a.sh, .int .i64 d.a.sl]) (sub_in_l E.out la.out EA.out (by simp)) Try.underlying29 rfl (sz_impl_Sender.trans (congrArg some (Eq.symm ((rfl : _ = 4))))) ?_)) | (go_at_call_of 71 SA; go_must ((with_reducible refine (C1.out _ (xa.below (by repeat (first | (with_reducible exact b_refl _) | (with_reducible refine b_alloc ?_ _) | (with_reducible refine b_drew ?_) | (with_reducible refine b_drewN ?_ _) | (with_reducible refine b_set ?_ ?_ _) | (with_reducible refine b_trans ?_ (by assumption)) | (with_reducible refine b_only ?_ (by assumption) ?_) | omega | (focus (simp; done)) | (focus (simp; omega)))))).mono ?_); rintro e w2 ⟨rfl, hb2⟩; have hz2 := hb2.size; (try simp at hz2); have F2 := Blk.lift F1 hb2 (by repeat (first | (with_reducible exact F1) | (with_reducible refine Blk.drew ?_) | (with_reducible refine Blk.drewN ?_ _) | (with_reducible refine Blk.alloc ?_ _) | (with_reducible refine Blk.far ?_ ?_ _) | omega | (focus (simp; done)) | (focus (simp; omega)))); (try simp only [World.size_alloc, List.setIfInBounds_toArray, List.set_cons_zero, List.set_cons_succ] at F2); have F2l := F2.lt; (try simp only [World.size_alloc] at F2l))))
    go_ret
    exact ⟨rfl, (by repeat (first | (with_reducible exact b_refl _) | (with_reducible refine b_alloc ?_ _) | (with_reducible refine b_drew ?_) | (with_reducible refine b_drewN ?_ _) | (with_reducible refine b_set ?_ ?_ _) | (with_reducible refine b_trans ?_ (by assumption)) | (with_reducible refine b_only ?_ (by assumption) ?_) | omega | (focus (simp; done)) | (focus (simp; omega))))⟩
set_option maxHeartbeats 2000000 in
theorem impl_PairQuietW (cs : List Value) (d : PairD) (w : World) (h : PairIs w cs d) (hs : d.small) (v : Bool) (hv : d.quiet = v) :
    Calls Try.prog 29 #[.agg cs.toArray] w fun e w' => e = .returned (.bool v) ∧ Below w.heap.size w w' := by
  subst hv
  have hl := Lib.hid h.len
  have hv := impl_PairValidV cs d
  rw [PairD.quiet]
  generalize d.ok = ok at *
  have HV := Lib.hid hv
  clear hv
  have h0 := h
  obtain ⟨va, vb, e, ha, hb⟩ := h
  have E := Lib.hid e
  have la := Lib.hid ha.len
  have lb := Lib.hid hb.len
  clear e
  have s1 : d.a.xs.length ≤ 1048576 := hs.1.2
  have s2 : d.b.xs.length ≤ 1048576 := hs.2.2
  obtain ⟨SA, na, ca, ea, xa⟩ := ha.send
  obtain ⟨SB, nb, cb, eb, xb⟩ := hb.send
  have EA := Lib.hid ea
  have EB := Lib.hid eb
  have n1 : na ≤ 1099511627776 := by have := xa.len; omega
  have n2 : nb ≤ 1099511627776 := by have := xb.len; omega
  have HS := Lib.hid hs
  have c1 := fun w h => impl_SendStatus d.a.sr SA na ca d.a.sh d.a.sl d.a.xs w h n1
  have c2 := fun w h => impl_SendStatus d.b.sr SB nb cb d.b.sh d.b.sl d.b.xs w h n2
  change ∀ w h, Calls _ _ _ w fun e w' => e = .returned (.int .i64 d.a.status) ∧ _ at c1
  change ∀ w h, Calls _ _ _ w fun e w' => e = .returned (.int .i64 d.b.status) ∧ _ at c2
  generalize d.a.status = ta at *
  generalize d.b.status = tb at *
  have C1 := Lib.hid c1
  have C2 := Lib.hid c2
  clear ea eb c1 c2 s1 s2 hs ha hb
  cases ok
  case' false =>
    go_enter Try.func29, Try.ntmps29
    go_wp2_with (first | ((with_reducible refine at_load 56 (.tmp 1) rfl ?_); go_must (refine wpList_loadB (by repeat (first | (with_reducible exact (Blk.new w _ _)) | (with_reducible apply Blk.drew) | (with_reducible apply Blk.drewN) | (with_reducible apply Blk.alloc) | (with_reducible apply Blk.far) | omega | (focus (simp; done)) | (focus (simp; omega)))) 56 (.tmp 1) rfl (by rfl) 0 rfl (cs) (sub_all cs) Try.underlying56 rfl (sz_impl_Pair.trans (congrArg some (Eq.symm (hl.out)))) ?_)) | (go_at_call 26; go_must ((with_reducible refine (HV.out _ (h0.below (by repeat (first | (with_reducible exact b_refl _) | (with_reducible refine b_alloc ?_ _) | (with_reducible refine b_drew ?_) | (with_reducible refine b_drewN ?_ _) | (with_reducible refine b_set ?_ ?_ _) | (with_reducible refine b_trans ?_ (by assumption)) | (with_reducible refine b_only ?_ (by assumption) ?_) | omega | (focus (simp; done)) | (focus (simp; omega))))) HS.out false rfl).mono ?_); rintro e w1 ⟨rfl, hb1⟩; have hz1 := hb1.size; (try simp at hz1); have F1 := (Blk.new w _ _).below hb1 (by first | omega | (simp; done) | (simp; omega)); (try simp only [World.size_alloc, List.setIfInBounds_toArray, List.set_cons_zero, List.set_cons_succ] at F1); have F1l := F1.lt; (try simp only [World.size_alloc] at F1l))))
    go_ret
    exact ⟨rfl, (by repeat (first | (with_reducible exact b_refl _) | (with_reducible refine b_alloc ?_ _) | (with_reducible refine b_drew ?_) | (with_reducible refine b_drewN ?_ _) | (with_reducible refine b_set ?_ ?_ _) | (with_reducible refine b_trans ?_ (by assumption)) | (with_reducible refine b_only ?_ (by assumption) ?_) | omega | (focus (simp; done)) | (focus (simp; omega))))⟩
  by_cases k : ta = 96
  · subst k
    go_enter Try.func29, Try.ntmps29
    go_wp2_with (first | ((with_reducible refine at_load 56 (.tmp 1) rfl ?_); go_must (refine wpList_loadB (by repeat (first | (with_reducible exact (Blk.new w _ _)) | (with_reducible apply Blk.drew) | (with_reducible apply Blk.drewN) | (with_reducible apply Blk.alloc) | (with_reducible apply Blk.far) | omega | (focus (simp; done)) | (focus (simp; omega)))) 56 (.tmp 1) rfl (by rfl) 0 rfl (cs) (sub_all cs) Try.underlying56 rfl (sz_impl_Pair.trans (congrArg some (Eq.symm (hl.out)))) ?_)) | (go_at_call 26; go_must ((with_reducible refine (HV.out _ (h0.below (by repeat (first | (with_reducible exact b_refl _) | (with_reducible refine b_alloc ?_ _) | (with_reducible refine b_drew ?_) | (with_reducible refine b_drewN ?_ _) | (with_reducible refine b_set ?_ ?_ _) | (with_reducible refine b_trans ?_ (by assumption)) | (with_reducible refine b_only ?_ (by assumption) ?_) | omega | (focus (simp; done)) | (focus (simp; omega))))) HS.out true rfl).mono ?_); rintro e w1 ⟨rfl, hb1⟩; have hz1 := hb1.size; (try simp at hz1); have F1 := (Blk.new w _ _).below hb1 (by first | omega | (simp; done) | (simp; omega)); (try simp only [World.size_alloc, List.setIfInBounds_toArray, List.set_cons_zero, List.set_cons_succ] at F1); have F1l := F1.lt; (try simp only [World.size_alloc] at F1l))) | ((with_reducible refine at_load 29 (.tmp 7) rfl ?_); go_must (refine wpList_loadB (by repeat (first | (with_reducible exact F1) | (with_reducible apply Blk.drew) | (with_reducible apply Blk.drewN) | (with_reducible apply Blk.alloc) | (with_reducible apply Blk.far) | omega | (focus (simp; done)) | (focus (simp; omega)))) 29 (.tmp 7) rfl (by rfl) 10 rfl ([.int .i64 d.a.sr, .slice SA na ca, .int .i64 d.a.sh, .int .i64 d.a.sl]) (sub_in_l E.out la.out EA.out (by simp)) Try.underlying29 rfl (sz_impl_Sender.trans (congrArg some (Eq.symm ((rfl : _ = 4))))) ?_)) | (go_at_call_of 72 SA; go_must ((with_reducible refine (C1.out _ (xa.below (by repeat (first | (with_reducible exact b_refl _) | (with_reducible refine b_alloc ?_ _) | (with_reducible refine b_drew ?_) | (with_reducible refine b_drewN ?_ _) | (with_reducible refine b_set ?_ ?_ _) | (with_reducible refine b_trans ?_ (by assumption)) | (with_reducible refine b_only ?_ (by assumption) ?_) | omega | (focus (simp; done)) | (focus (simp; omega)))))).mono ?_); rintro e w2 ⟨rfl, hb2⟩; have hz2 := hb2.size; (try simp at hz2); have F2 := Blk.lift F1 hb2 (by repeat (first | (with_reducible exact F1) | (with_reducible refine Blk.drew ?_) | (with_reducible refine Blk.drewN ?_ _) | (with_reducible refine Blk.alloc ?_ _) | (with_reducible refine Blk.far ?_ ?_ _) | omega | (focus (simp; done)) | (focus (simp; omega)))); (try simp only [World.size_alloc, List.setIfInBounds_toArray, List.set_cons_zero, List.set_cons_succ] at F2); have F2l := F2.lt; (try simp only [World.size_alloc] at F2l))) | ((with_reducible refine at_load 29 (.tmp 14) rfl ?_); go_must (refine wpList_loadB (by repeat (first | (with_reducible exact F2) | (with_reducible apply Blk.drew) | (with_reducible apply Blk.drewN) | (with_reducible apply Blk.alloc) | (with_reducible apply Blk.far) | omega | (focus (simp; done)) | (focus (simp; omega)))) 29 (.tmp 14) rfl (by rfl) 28 rfl ([.int .i64 d.b.sr, .slice SB nb cb, .int .i64 d.b.sh, .int .i64 d.b.sl]) (sub_in_r (o := 10) E.out la.out EB.out) Try.underlying29 rfl (sz_impl_Sender.trans (congrArg some (Eq.symm ((rfl : _ = 4))))) ?_)) | (go_at_call_of 72 SB; go_must ((with_reducible refine (C2.out _ (xb.below (by repeat (first | (with_reducible exact b_refl _) | (with_reducible refine b_alloc ?_ _) | (with_reducible refine b_drew ?_) | (with_reducible refine b_drewN ?_ _) | (with_reducible refine b_set ?_ ?_ _) | (with_reducible refine b_trans ?_ (by assumption)) | (with_reducible refine b_only ?_ (by assumption) ?_) | omega | (focus (simp; done)) | (focus (simp; omega)))))).mono ?_); rintro e w3 ⟨rfl, hb3⟩; have hz3 := hb3.size; (try simp at hz3))))
    all_goals
      go_ret
      refine ⟨ret_bool ?_, (by repeat (first | (with_reducible exact b_refl _) | (with_reducible refine b_alloc ?_ _) | (with_reducible refine b_drew ?_) | (with_reducible refine b_drewN ?_ _) | (with_reducible refine b_set ?_ ?_ _) | (with_reducible refine b_trans ?_ (by assumption)) | (with_reducible refine b_only ?_ (by assumption) ?_) | omega | (focus (simp; done)) | (focus (simp; omega))))⟩
      simp_all
      try rfl
  · have k2 : (ta == 96) = false := by simpa using k
    rw [show (decide (ta = 96)) = false by simpa using k]
    clear k
    go_enter Try.func29, Try.ntmps29
    go_wp2_with (first | ((with_reducible refine at_load 56 (.tmp 1) rfl ?_); go_must (refine wpList_loadB (by repeat (first | (with_reducible exact (Blk.new w _ _)) | (with_reducible apply Blk.drew) | (with_reducible apply Blk.drewN) | (with_reducible apply Blk.alloc) | (with_reducible apply Blk.far) | omega | (focus (simp; done)) | (focus (simp; omega)))) 56 (.tmp 1) rfl (by rfl) 0 rfl (cs) (sub_all cs) Try.underlying56 rfl (sz_impl_Pair.trans (congrArg some (Eq.symm (hl.out)))) ?_)) | (go_at_call 26; go_must ((with_reducible refine (HV.out _ (h0.below (by repeat (first | (with_reducible exact b_refl _) | (with_reducible refine b_alloc ?_ _) | (with_reducible refine b_drew ?_) | (with_reducible refine b_drewN ?_ _) | (with_reducible refine b_set ?_ ?_ _) | (with_reducible refine b_trans ?_ (by assumption)) | (with_reducible refine b_only ?_ (by assumption) ?_) | omega | (focus (simp; done)) | (focus (simp; omega))))) HS.out true rfl).mono ?_); rintro e w1 ⟨rfl, hb1⟩; have hz1 := hb1.size; (try simp at hz1); have F1 := (Blk.new w _ _).below hb1 (by first | omega | (simp; done) | (simp; omega)); (try simp only [World.size_alloc, List.setIfInBounds_toArray, List.set_cons_zero, List.set_cons_succ] at F1); have F1l := F1.lt; (try simp only [World.size_alloc] at F1l))) | ((with_reducible refine at_load 29 (.tmp 7) rfl ?_); go_must (refine wpList_loadB (by repeat (first | (with_reducible exact F1) | (with_reducible apply Blk.drew) | (with_reducible apply Blk.drewN) | (with_reducible apply Blk.alloc) | (with_reducible apply Blk.far) | omega | (focus (simp; done)) | (focus (simp; omega)))) 29 (.tmp 7) rfl (by rfl) 10 rfl ([.int .i64 d.a.sr, .slice SA na ca, .int .i64 d.a.sh, .int .i64 d.a.sl]) (sub_in_l E.out la.out EA.out (by simp)) Try.underlying29 rfl (sz_impl_Sender.trans (congrArg some (Eq.symm ((rfl : _ = 4))))) ?_)) | (go_at_call_of 72 SA; go_must ((with_reducible refine (C1.out _ (xa.below (by repeat (first | (with_reducible exact b_refl _) | (with_reducible refine b_alloc ?_ _) | (with_reducible refine b_drew ?_) | (with_reducible refine b_drewN ?_ _) | (with_reducible refine b_set ?_ ?_ _) | (with_reducible refine b_trans ?_ (by assumption)) | (with_reducible refine b_only ?_ (by assumption) ?_) | omega | (focus (simp; done)) | (focus (simp; omega)))))).mono ?_); rintro e w2 ⟨rfl, hb2⟩; have hz2 := hb2.size; (try simp at hz2); have F2 := Blk.lift F1 hb2 (by repeat (first | (with_reducible exact F1) | (with_reducible refine Blk.drew ?_) | (with_reducible refine Blk.drewN ?_ _) | (with_reducible refine Blk.alloc ?_ _) | (with_reducible refine Blk.far ?_ ?_ _) | omega | (focus (simp; done)) | (focus (simp; omega)))); (try simp only [World.size_alloc, List.setIfInBounds_toArray, List.set_cons_zero, List.set_cons_succ] at F2); have F2l := F2.lt; (try simp only [World.size_alloc] at F2l))))
    go_ret
    exact ⟨rfl, (by repeat (first | (with_reducible exact b_refl _) | (with_reducible refine b_alloc ?_ _) | (with_reducible refine b_drew ?_) | (with_reducible refine b_drewN ?_ _) | (with_reducible refine b_set ?_ ?_ _) | (with_reducible refine b_trans ?_ (by assumption)) | (with_reducible refine b_only ?_ (by assumption) ?_) | omega | (focus (simp; done)) | (focus (simp; omega))))⟩
end Go.Proofs.Ytpbhidlglcmlnaa
