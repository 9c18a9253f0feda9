/-
  FnLinkPart returns true for every code: both drivers have to be valid.
-/
import Derived.Test.YtdnjdbafffifeaaTyLink
import Derived.Test.YtdnjdbafffifeaaRow
set_option linter.unusedVariables false
set_option linter.unusedSimpArgs false
namespace Go.Proofs.Ytdnjdbafffifeaa
open Go.ChangeShapes Go.WideShapes Go.ChangeAt Go.RowKit

theorem at_len {cs : List Value} {n : Nat} (h : cs.length = n) (i : Nat) (hi : i < n) : ∃ u, cs.toArray[i]? = some u := by
  subst h
  exact ⟨_, by rw [List.getElem?_toArray, List.getElem?_eq_getElem hi]⟩
theorem Blk.news (w : World) (p : Addr) (u : Value) (t : TypeId) (cs : Array Value) : Blk ((w.setCell p u).alloc (.cells cs t)) w.heap.size t cs := by
  have h := Blk.new (w.setCell p u) t cs
  rwa [show (w.setCell p u).heap.size = w.heap.size by simp [World.setCell]] at h
theorem LinkIs.st {w : World} {vs : List Value} {d : LinkD} (h : LinkIs w vs d) : vs.toArray[2]? = some (.int .i64 d.a.port.s) := by
  obtain ⟨va, vb, rfl, ⟨vp, IA, OA, ni, ci, no, co, rfl, ⟨RA, SA, rn, sn, rc, sc, rfl, hg, hx⟩, hi, ho⟩, hb⟩ := h
  rfl
theorem LinkIs.st_ {w : World} {vs : List Value} {d : LinkD} (h : LinkIs w vs d) (x : Int) : LinkIs w (vs.set 2 (.int .i64 x)) { d with a := { d.a with port := { d.a.port with s := x } } } := by
  obtain ⟨va, vb, rfl, ha, hb⟩ := h
  have hl := ha.len
  refine ⟨va.set 2 (.int .i64 x), vb, ?_, ?_, hb⟩
  · rw [List.set_append_left _ _ (by omega)]
  · obtain ⟨vp, IA, OA, ni, ci, no, co, rfl, ⟨RA, SA, rn, sn, rc, sc, rfl, hg, hx⟩, hi, ho⟩ := ha
    exact ⟨_, IA, OA, ni, ci, no, co, rfl, ⟨RA, SA, rn, sn, rc, sc, rfl, hg, hx⟩, hi, ho⟩
theorem LinkIs.lo_ {w : World} {vs : List Value} {d : LinkD} (h : LinkIs w vs d) (x : Int) : LinkIs w (vs.set 43 (.int .i64 x)) { d with b := { d.b with lo := x } } := by
  obtain ⟨va, vb, rfl, ha, hb⟩ := h
  refine ⟨va, vb.set 21 (.int .i64 x), ?_, ha, ?_⟩
  · rw [List.set_append_right _ _ (by rw [ha.len]; omega), ha.len]
  · obtain ⟨vp, IA, OA, ni, ci, no, co, rfl, hp, hi, ho⟩ := hb
    refine ⟨vp, IA, OA, ni, ci, no, co, ?_, hp, hi, ho⟩
    rw [List.set_append_right _ _ (by rw [hp.len]; omega), hp.len]
    rfl
theorem LinkD.st_no {d : LinkD} (h : d.ok = true) {S0 : Int} (e : d.a.port.s = S0) : ({ d with a := { d.a with port := { d.a.port with s := 3 - S0 } } } : LinkD).ok = false := by
  cases hb : ({ d with a := { d.a with port := { d.a.port with s := 3 - S0 } } } : LinkD).ok with
  | false => rfl
  | true =>
    simp [LinkD.ok] at h hb
    omega
theorem LinkD.lo_no (d : LinkD) : ({ d with b := { d.b with lo := -1 } } : LinkD).ok = false := by simp [LinkD.ok, DriverD.ok, in_]
theorem LinkD.st_in {d : LinkD} (h : d.ok = true) : 1 ≤ d.a.port.s ∧ d.a.port.s ≤ 2 := by
  simp [LinkD.ok, DriverD.ok, PortD.ok, portOk, fmtOk, in_] at h
  omega
set_option maxHeartbeats 4000000 in
theorem FnLinkPart_small (A : Option Addr) (n c : Nat) (w : World) (hC : Code w A n c) : Calls Try.prog 4 #[.slice A n c] w fun e w' => e = .returned (.bool true) ∧ Below w.heap.size w w' := by
  have hn : n ≤ 1048576 := hC.elim fun _ h => h.2.2.1
  have hn2 : ¬ 1048576 < n := by omega
  go_enter Try.func4, Try.ntmps4
  go_wp2_with fail
  (with_reducible refine (DrawLinkValid_any _ _ _ _ hC).mono ?_); rintro e w1 ⟨cs, d, rfl, is1, hs, hb1⟩; have hz1 := hb1.size; (try simp at hz1)
  have l1 := Lib.hid is1.len
  have o1 := Lib.hid is1.one
  go_wp2_with (first | ((with_reducible refine at_store 51 (.tmp 3) (.tmp 12) rfl ?_); go_must (refine wpList_storeB (g := w1.heap.size) (t := 51) (cs := #[.int .i64 0, .int .i64 0, .int .i64 0, .int .i64 0, .int .i64 0, .int .i64 0, .int .i64 0, .slice none 0 0, .bool false, .int .i64 0, .int .i64 0, .slice none 0 0, .int .i64 0, .int .i64 0, .bool false, .bool false, .bool false, .bool false, .slice none 0 0, .slice none 0 0, .int .i64 0, .int .i64 0, .int .i64 0, .int .i64 0, .int .i64 0, .int .i64 0, .int .i64 0, .int .i64 0, .int .i64 0, .slice none 0 0, .bool false, .int .i64 0, .int .i64 0, .slice none 0 0, .int .i64 0, .int .i64 0, .bool false, .bool false, .bool false, .bool false, .slice none 0 0, .slice none 0 0, .int .i64 0, .int .i64 0]) (by repeat (first | (with_reducible exact (Blk.new w1 _ _)) | (with_reducible refine Blk.drew ?_) | (with_reducible refine Blk.drewN ?_ _) | (with_reducible refine Blk.alloc ?_ _) | (with_reducible refine Blk.far ?_ ?_ _) | omega | (focus (simp; done)) | (focus (simp; omega)))) 51 (.tmp 3) (.tmp 12) rfl (by rfl) 0 rfl (cs) rfl (sz_impl_Link.trans (congrArg some (Eq.symm (l1.out)))) (o1.out) (by rw [l1.out]; simp) (cs) (st_all (by rw [l1.out]; rfl)) ?_; intro w2 N2 ho2; have hz2 := ho2.size; (try simp at hz2); have S2 := N2; (try simp only [World.size_alloc, List.setIfInBounds_toArray, List.set_cons_zero, List.set_cons_succ] at S2); have S2l := S2.lt; (try simp only [World.size_alloc] at S2l))) | ((with_reducible refine at_load 51 (.tmp 3) rfl ?_); go_must (refine wpList_loadB (by repeat (first | (with_reducible exact S2) | (with_reducible apply Blk.drew) | (with_reducible apply Blk.drewN) | (with_reducible apply Blk.alloc) | (with_reducible apply Blk.far) | omega | (focus (simp; done)) | (focus (simp; omega)))) 51 (.tmp 3) rfl (by rfl) 0 rfl (cs) (sub_all _) Try.underlying51 rfl (sz_impl_Link.trans (congrArg some (Eq.symm (l1.out)))) ?_)))
  by_cases k : d.ok = true
  case' neg =>
    have k2 : d.ok = false := by simpa using k
    clear k
    go_wp2_with fail
    (with_reducible refine (impl_LinkValidW cs d _ (is1.below (by repeat (first | (with_reducible exact b_refl _) | (with_reducible refine b_alloc ?_ _) | (with_reducible refine b_drew ?_) | (with_reducible refine b_drewN ?_ _) | (with_reducible refine b_set ?_ ?_ _) | (with_reducible refine b_trans ?_ (by assumption)) | (with_reducible refine b_only ?_ (by assumption) ?_) | omega | (focus (simp; done)) | (focus (simp; omega))))) hs false k2).mono ?_); rintro e w3 ⟨rfl, hb3⟩; have hz3 := hb3.size; (try simp at hz3); have S3 := Blk.lift S2 hb3 (by repeat (first | (with_reducible exact S2) | (with_reducible refine Blk.drew ?_) | (with_reducible refine Blk.drewN ?_ _) | (with_reducible refine Blk.alloc ?_ _) | (with_reducible refine Blk.far ?_ ?_ _) | omega | (focus (simp; done)) | (focus (simp; omega)))); (try simp only [World.size_alloc, List.setIfInBounds_toArray, List.set_cons_zero, List.set_cons_succ] at S3); have S3l := S3.lt; (try simp only [World.size_alloc] at S3l)
    go_wp2_with ((with_reducible refine at_load 51 (.tmp 3) rfl ?_); go_must (refine wpList_loadB (by repeat (first | (with_reducible exact S3) | (with_reducible apply Blk.drew) | (with_reducible apply Blk.drewN) | (with_reducible apply Blk.alloc) | (with_reducible apply Blk.far) | omega | (focus (simp; done)) | (focus (simp; omega)))) 51 (.tmp 3) rfl (by rfl) 0 rfl (cs) (sub_all _) Try.underlying51 rfl (sz_impl_Link.trans (congrArg some (Eq.symm (l1.out)))) ?_))
    go_wp2_with fail
    (with_reducible refine (spec_LinkValidW cs d _ (is1.below (by repeat (first | (with_reducible exact b_refl _) | (with_reducible refine b_alloc ?_ _) | (with_reducible refine b_drew ?_) | (with_reducible refine b_drewN ?_ _) | (with_reducible refine b_set ?_ ?_ _) | (with_reducible refine b_trans ?_ (by assumption)) | (with_reducible refine b_only ?_ (by assumption) ?_) | omega | (focus (simp; done)) | (focus (simp; omega))))) hs false k2).mono ?_); rintro e w4 ⟨rfl, hb4⟩; have hz4 := hb4.size; (try simp at hz4)
    go_wp2
    go_ret
    exact ⟨rfl, (by repeat (first | (with_reducible exact b_refl _) | (with_reducible refine b_alloc ?_ _) | (with_reducible refine b_drew ?_) | (with_reducible refine b_drewN ?_ _) | (with_reducible refine b_set ?_ ?_ _) | (with_reducible refine b_trans ?_ (by assumption)) | (with_reducible refine b_only ?_ (by assumption) ?_) | omega | (focus (simp; done)) | (focus (simp; omega))))⟩
  go_wp2_with fail
  (with_reducible refine (impl_LinkValidW cs d _ (is1.below (by repeat (first | (with_reducible exact b_refl _) | (with_reducible refine b_alloc ?_ _) | (with_reducible refine b_drew ?_) | (with_reducible refine b_drewN ?_ _) | (with_reducible refine b_set ?_ ?_ _) | (with_reducible refine b_trans ?_ (by assumption)) | (with_reducible refine b_only ?_ (by assumption) ?_) | omega | (focus (simp; done)) | (focus (simp; omega))))) hs true k).mono ?_); rintro e w3 ⟨rfl, hb3⟩; have hz3 := hb3.size; (try simp at hz3); have S3 := Blk.lift S2 hb3 (by repeat (first | (with_reducible exact S2) | (with_reducible refine Blk.drew ?_) | (with_reducible refine Blk.drewN ?_ _) | (with_reducible refine Blk.alloc ?_ _) | (with_reducible refine Blk.far ?_ ?_ _) | omega | (focus (simp; done)) | (focus (simp; omega)))); (try simp only [World.size_alloc, List.setIfInBounds_toArray, List.set_cons_zero, List.set_cons_succ] at S3); have S3l := S3.lt; (try simp only [World.size_alloc] at S3l)
  go_wp2_with ((with_reducible refine at_load 51 (.tmp 3) rfl ?_); go_must (refine wpList_loadB (by repeat (first | (with_reducible exact S3) | (with_reducible apply Blk.drew) | (with_reducible apply Blk.drewN) | (with_reducible apply Blk.alloc) | (with_reducible apply Blk.far) | omega | (focus (simp; done)) | (focus (simp; omega)))) 51 (.tmp 3) rfl (by rfl) 0 rfl (cs) (sub_all _) Try.underlying51 rfl (sz_impl_Link.trans (congrArg some (Eq.symm (l1.out)))) ?_))
  go_wp2_with fail
  (with_reducible refine (spec_LinkValidW cs d _ (is1.below (by repeat (first | (with_reducible exact b_refl _) | (with_reducible refine b_alloc ?_ _) | (with_reducible refine b_drew ?_) | (with_reducible refine b_drewN ?_ _) | (with_reducible refine b_set ?_ ?_ _) | (with_reducible refine b_trans ?_ (by assumption)) | (with_reducible refine b_only ?_ (by assumption) ?_) | omega | (focus (simp; done)) | (focus (simp; omega))))) hs true k).mono ?_); rintro e w4 ⟨rfl, hb4⟩; have hz4 := hb4.size; (try simp at hz4); have S4 := Blk.lift S3 hb4 (by repeat (first | (with_reducible exact S3) | (with_reducible refine Blk.drew ?_) | (with_reducible refine Blk.drewN ?_ _) | (with_reducible refine Blk.alloc ?_ _) | (with_reducible refine Blk.far ?_ ?_ _) | omega | (focus (simp; done)) | (focus (simp; omega)))); (try simp only [World.size_alloc, List.setIfInBounds_toArray, List.set_cons_zero, List.set_cons_succ] at S4); have S4l := S4.lt; (try simp only [World.size_alloc] at S4l)
  obtain ⟨S0, eS⟩ : ∃ S0, d.a.port.s = S0 := ⟨_, rfl⟩
  obtain ⟨hS1, hS2⟩ := LinkD.st_in k
  rw [eS] at hS1 hS2
  have q1 : cs.toArray[2]? = some (.int .i64 S0) := by rw [← eS]; exact is1.st
  obtain ⟨u2, q2⟩ := at_len l1.out 43 (by decide)
  have Q1 := Lib.hid q1
  have Q2 := Lib.hid q2
  have m1 := Lib.hid (show (cs.set 2 (Value.int .i64 (3 - S0))).length = 44 by rw [List.length_set]; exact l1.out)
  have m2 := Lib.hid (show (cs.set 43 (Value.int .i64 (-1))).length = 44 by rw [List.length_set]; exact l1.out)
  have ix := LinkIs.st_ (x := 3 - S0) is1
  have iy := LinkIs.lo_ (x := -1) is1
  have kx := Lib.hid (LinkD.st_no k eS)
  have ky := Lib.hid (LinkD.lo_no d)
  have t1 : ({ d with a := { d.a with port := { d.a.port with s := 3 - S0 } } } : LinkD).small := hs
  have t2 : ({ d with b := { d.b with lo := -1 } } : LinkD).small := hs
  clear q1 q2 k eS
  go_wp2_with (first | ((with_reducible refine at_load 51 (.tmp 3) rfl ?_); go_must (refine wpList_loadB (by repeat (first | (with_reducible exact S4) | (with_reducible apply Blk.drew) | (with_reducible apply Blk.drewN) | (with_reducible apply Blk.alloc) | (with_reducible apply Blk.far) | omega | (focus (simp; done)) | (focus (simp; omega)))) 51 (.tmp 3) rfl (by rfl) 0 rfl (cs) (sub_all _) Try.underlying51 rfl (sz_impl_Link.trans (congrArg some (Eq.symm (l1.out)))) ?_)) | ((with_reducible refine at_store 51 (.tmp 6) (.tmp 27) rfl ?_); go_must (refine wpList_storeB (g := w4.heap.size) (t := 51) (cs := #[.int .i64 0, .int .i64 0, .int .i64 0, .int .i64 0, .int .i64 0, .int .i64 0, .int .i64 0, .slice none 0 0, .bool false, .int .i64 0, .int .i64 0, .slice none 0 0, .int .i64 0, .int .i64 0, .bool false, .bool false, .bool false, .bool false, .slice none 0 0, .slice none 0 0, .int .i64 0, .int .i64 0, .int .i64 0, .int .i64 0, .int .i64 0, .int .i64 0, .int .i64 0, .int .i64 0, .int .i64 0, .slice none 0 0, .bool false, .int .i64 0, .int .i64 0, .slice none 0 0, .int .i64 0, .int .i64 0, .bool false, .bool false, .bool false, .bool false, .slice none 0 0, .slice none 0 0, .int .i64 0, .int .i64 0]) (by repeat (first | (with_reducible exact (Blk.new w4 _ _)) | (with_reducible refine Blk.drew ?_) | (with_reducible refine Blk.drewN ?_ _) | (with_reducible refine Blk.alloc ?_ _) | (with_reducible refine Blk.far ?_ ?_ _) | omega | (focus (simp; done)) | (focus (simp; omega)))) 51 (.tmp 6) (.tmp 27) rfl (by rfl) 0 rfl (cs) rfl (sz_impl_Link.trans (congrArg some (Eq.symm (l1.out)))) (o1.out) (by rw [l1.out]; simp) (cs) (st_all (by rw [l1.out]; rfl)) ?_; intro w5 N5 ho5; have hz5 := ho5.size; (try simp at hz5); have S5 := Blk.liftO S4 ho5 (by repeat (first | (with_reducible exact S4) | (with_reducible refine Blk.drew ?_) | (with_reducible refine Blk.drewN ?_ _) | (with_reducible refine Blk.alloc ?_ _) | (with_reducible refine Blk.far ?_ ?_ _) | omega | (focus (simp; done)) | (focus (simp; omega)))) (by first | omega | (simp; done) | (simp; omega)); (try simp only [World.size_alloc, List.setIfInBounds_toArray, List.set_cons_zero, List.set_cons_succ] at S5); have S5l := S5.lt; (try simp only [World.size_alloc] at S5l); have X5 := N5; (try simp only [World.size_alloc, List.setIfInBounds_toArray, List.set_cons_zero, List.set_cons_succ] at X5); have X5l := X5.lt; (try simp only [World.size_alloc] at X5l); have sx := S5.cellv 2 Q1.out; have fx := X5.frozen 2; have cx := X5.cellv 2 Q1.out; have Xs := Blk.to2 (X5.set_ 2 (.int .i64 (3 - S0))) (cs' := (cs.set 2 (.int .i64 (3 - S0))).toArray) (by simp); have Ss := S5.far (show w1.heap.size ≠ (⟨w4.heap.size, 2, none⟩ : Addr).block by simp; omega) (.int .i64 (3 - S0)))) | ((with_reducible refine at_load 51 (.tmp 3) rfl ?_); go_must (refine wpList_loadB (by repeat (first | (with_reducible exact Ss) | (with_reducible apply Blk.drew) | (with_reducible apply Blk.drewN) | (with_reducible apply Blk.alloc) | (with_reducible apply Blk.far) | omega | (focus (simp; done)) | (focus (simp; omega)))) 51 (.tmp 3) rfl (by rfl) 0 rfl (cs) (sub_all _) Try.underlying51 rfl (sz_impl_Link.trans (congrArg some (Eq.symm (l1.out)))) ?_)) | ((with_reducible refine at_store 51 (.tmp 7) (.tmp 38) rfl ?_); go_must (refine wpList_storeB (g := w5.heap.size) (t := 51) (cs := #[.int .i64 0, .int .i64 0, .int .i64 0, .int .i64 0, .int .i64 0, .int .i64 0, .int .i64 0, .slice none 0 0, .bool false, .int .i64 0, .int .i64 0, .slice none 0 0, .int .i64 0, .int .i64 0, .bool false, .bool false, .bool false, .bool false, .slice none 0 0, .slice none 0 0, .int .i64 0, .int .i64 0, .int .i64 0, .int .i64 0, .int .i64 0, .int .i64 0, .int .i64 0, .int .i64 0, .int .i64 0, .slice none 0 0, .bool false, .int .i64 0, .int .i64 0, .slice none 0 0, .int .i64 0, .int .i64 0, .bool false, .bool false, .bool false, .bool false, .slice none 0 0, .slice none 0 0, .int .i64 0, .int .i64 0]) (by repeat (first | (with_reducible exact (Blk.news w5 _ _ _ _)) | (with_reducible refine Blk.drew ?_) | (with_reducible refine Blk.drewN ?_ _) | (with_reducible refine Blk.alloc ?_ _) | (with_reducible refine Blk.far ?_ ?_ _) | omega | (focus (simp; done)) | (focus (simp; omega)))) 51 (.tmp 7) (.tmp 38) rfl (by rfl) 0 rfl (cs) rfl (sz_impl_Link.trans (congrArg some (Eq.symm (l1.out)))) (o1.out) (by rw [l1.out]; simp) (cs) (st_all (by rw [l1.out]; rfl)) ?_; intro w6 N6 ho6; have hz6 := ho6.size; (try simp at hz6); have X6 := Blk.liftO Xs ho6 (by repeat (first | (with_reducible exact Xs) | (with_reducible refine Blk.drew ?_) | (with_reducible refine Blk.drewN ?_ _) | (with_reducible refine Blk.alloc ?_ _) | (with_reducible refine Blk.far ?_ ?_ _) | omega | (focus (simp; done)) | (focus (simp; omega)))) (by first | omega | (simp; done) | (simp; omega)); (try simp only [World.size_alloc, List.setIfInBounds_toArray, List.set_cons_zero, List.set_cons_succ] at X6); have X6l := X6.lt; (try simp only [World.size_alloc] at X6l); have Y6 := N6; (try simp only [World.size_alloc, List.setIfInBounds_toArray, List.set_cons_zero, List.set_cons_succ] at Y6); have Y6l := Y6.lt; (try simp only [World.size_alloc] at Y6l); have fy := Y6.frozen 43; have cy := Y6.cellv 43 Q2.out; have Ys := Blk.to2 (Y6.set_ 43 (.int .i64 (-1))) (cs' := (cs.set 43 (.int .i64 (-1))).toArray) (by simp))) | ((with_reducible refine at_load 51 (.tmp 6) rfl ?_); go_must (refine wpList_loadB (by repeat (first | (with_reducible exact X6) | (with_reducible apply Blk.drew) | (with_reducible apply Blk.drewN) | (with_reducible apply Blk.alloc) | (with_reducible apply Blk.far) | omega | (focus (simp; done)) | (focus (simp; omega)))) 51 (.tmp 6) rfl (by rfl) 0 rfl (cs.set 2 (.int .i64 (3 - S0))) (sub_all _) Try.underlying51 rfl (sz_impl_Link.trans (congrArg some (Eq.symm (m1.out)))) ?_)))
  go_wp2_with fail
  (with_reducible refine (impl_LinkValidW _ _ _ (ix.below (by repeat (first | (with_reducible exact b_refl _) | (with_reducible refine b_alloc ?_ _) | (with_reducible refine b_drew ?_) | (with_reducible refine b_drewN ?_ _) | (with_reducible refine b_set ?_ ?_ _) | (with_reducible refine b_trans ?_ (by assumption)) | (with_reducible refine b_only ?_ (by assumption) ?_) | omega | (focus (simp; done)) | (focus (simp; omega))))) t1 false kx.out).mono ?_); rintro e w7 ⟨rfl, hb7⟩; have hz7 := hb7.size; (try simp at hz7); have Y7 := Blk.lift Ys hb7 (by repeat (first | (with_reducible exact Ys) | (with_reducible refine Blk.drew ?_) | (with_reducible refine Blk.drewN ?_ _) | (with_reducible refine Blk.alloc ?_ _) | (with_reducible refine Blk.far ?_ ?_ _) | omega | (focus (simp; done)) | (focus (simp; omega)))); (try simp only [World.size_alloc, List.setIfInBounds_toArray, List.set_cons_zero, List.set_cons_succ] at Y7); have Y7l := Y7.lt; (try simp only [World.size_alloc] at Y7l)
  go_wp2_with (first | ((with_reducible refine at_load 51 (.tmp 7) rfl ?_); go_must (refine wpList_loadB (by repeat (first | (with_reducible exact Y7) | (with_reducible apply Blk.drew) | (with_reducible apply Blk.drewN) | (with_reducible apply Blk.alloc) | (with_reducible apply Blk.far) | omega | (focus (simp; done)) | (focus (simp; omega)))) 51 (.tmp 7) rfl (by rfl) 0 rfl (cs.set 43 (.int .i64 (-1))) (sub_all _) Try.underlying51 rfl (sz_impl_Link.trans (congrArg some (Eq.symm (m2.out)))) ?_)))
  go_wp2_with fail
  (with_reducible refine (impl_LinkValidW _ _ _ (iy.below (by repeat (first | (with_reducible exact b_refl _) | (with_reducible refine b_alloc ?_ _) | (with_reducible refine b_drew ?_) | (with_reducible refine b_drewN ?_ _) | (with_reducible refine b_set ?_ ?_ _) | (with_reducible refine b_trans ?_ (by assumption)) | (with_reducible refine b_only ?_ (by assumption) ?_) | omega | (focus (simp; done)) | (focus (simp; omega))))) t2 false ky.out).mono ?_); rintro e w8 ⟨rfl, hb8⟩; have hz8 := hb8.size; (try simp at hz8)
  go_wp2
  go_ret
  exact ⟨rfl, (by repeat (first | (with_reducible exact b_refl _) | (with_reducible refine b_alloc ?_ _) | (with_reducible refine b_drew ?_) | (with_reducible refine b_drewN ?_ _) | (with_reducible refine b_set ?_ ?_ _) | (with_reducible refine b_trans ?_ (by assumption)) | (with_reducible refine b_only ?_ (by assumption) ?_) | omega | (focus (simp; done)) | (focus (simp; omega))))⟩
set_option maxHeartbeats 1000000 in
theorem FnLinkPart_calls (A : Option Addr) (n c : Nat) (w : World) (hC : CodeIn w A n c) : Calls Try.prog 4 #[.slice A n c] w fun e w' => e = .returned (.bool true) ∧ Below w.heap.size w w' := by
  by_cases hn : n ≤ 1048576
  · exact FnLinkPart_small A n c w (hC.code hn)
  · have hl := hC.len
    have hn2 : (1048576 : Int) < n := by omega
    go_enter Try.func4, Try.ntmps4
    go_wp2
    go_ret
    exact ⟨rfl, b_refl _⟩
set_option maxRecDepth 100000 in
theorem FnLinkPart_lifted (os : Os) (started : os.Started) (H : Type) (enc : TypeId × Value → H) :
    ReturnsInHanded {} Try.checked os 4 .any (Rows.fnLinkPartSpec.pre6 enc Try.prog Try.f4 Rows.fnLinkPartRow.domain false) (Rows.fnLinkPartSpec.post enc Try.prog Try.f4 false true false false) := by
  refine returnsInHanded_of_change (C := Try.checked) own started (by kernel_rfl) Try.func4
    (ChangeSpec.witness6 (enc := enc) (C := Try.checked) false ⟨#[], #[.slice none 0 0], []⟩ 8 (by kernel_rfl) (by kernel_rfl) (by kernel_rfl) (by kernel_rfl)) ?_
  intro W base args ds gs before hval0 hW _ _
  have hval : ∀ (j : Nat) t v, Try.f4.params[j]? = some t → args[j]? = some v → Value.okWide Try.prog W .any base t v := hval0
  have hW2 := hW
  obtain ⟨p, q, hA0, hV, rfl, _, _⟩ := hW2
  have hA : DataW.TrodAll enc Try.prog W 0 (fun _ => true) true Try.f4.params.toList args.toList ds p := hA0
  rw [Try.params4] at hA hval
  obtain ⟨v0, d0, rfl, rfl, h0⟩ := trodAll_one hA
  obtain ⟨rfl, rfl⟩ := trodVars_none hV
  obtain ⟨A0, n, c, rfl, hC⟩ := open_code (hval 0 _ v0 rfl rfl) h0
  refine (FnLinkPart_calls A0 n c W hC).mono fun e W' ⟨he, hb⟩ => ?_
  subst he
  exact ⟨_, rfl, law_post (f := Try.f4) (s := Rows.fnLinkPartSpec) 4 laid_out (by kernel_rfl) rfl (by kernel_rfl) Try.underlying4 hW rfl hb⟩
theorem FnLinkPart_holds : Rows.FnLinkPartSaid :=
  OpenClaim.holds_of_wide 4 Try.f4 rfl rfl rfl rfl rfl rfl rfl ⟨rfl, rfl, rfl, rfl, rfl⟩ rfl rfl rfl rfl rfl (by kernel_rfl) Try.func4 (by kernel_rfl)
    (of_decide_eq_true (by kernel_rfl)) (by unfold Func.isWrapper; rw [if_neg (of_decide_eq_false (by kernel_rfl))]; exact ⟨rfl, rfl⟩)
    (fun os started H enc _ => FnLinkPart_lifted os started H enc)

end Go.Proofs.Ytdnjdbafffifeaa
