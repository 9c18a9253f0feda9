/-
  FnDriverNew returns true for every code: a new driver is ready.
-/
import Derived.Test.YtpbhidlglcmlnaaSameNew
import Derived.Test.YtpbhidlglcmlnaaRow
set_option linter.unusedVariables false
set_option linter.unusedSimpArgs false
namespace Go.Proofs.Ytpbhidlglcmlnaa
open Go.ChangeShapes Go.WideShapes Go.ChangeAt Go.RowKit

theorem PortIs.en3 {w : World} {vs : List Value} {d : PortD} (h : PortIs w vs d) (x y : Int) : PortIs w ((vs.set 3 (.int .i64 x)).set 4 (.int .i64 y)) { d with en := x, ct := y } := by
  obtain ⟨RA, SA, rn, sn, rc, sc, rfl, hg, hx⟩ := h
  exact ⟨RA, SA, rn, sn, rc, sc, rfl, hg, hx⟩
theorem newDriver_ok {rm tr : Int} (h : (newPort rm tr).ok = true) : (newDriver rm tr).ok = true := by
  simp [DriverD.ok, newDriver, PortD.ok, portOk, newPort, ringOk, bytesOk, in_] at h ⊢
  exact h
theorem at_len {cs : List Value} {n : Nat} (h : cs.length = n) (i : Nat) (hi : i < n) : ∃ u, cs.toArray[i]? = some u := by
  subst h
  exact ⟨_, by rw [List.getElem?_toArray, List.getElem?_eq_getElem hi]⟩
set_option maxHeartbeats 8000000 in
theorem FnDriverNew_small (A : Option Addr) (n c : Nat) (w : World) (hC : Code w A n c) : Calls Try.prog 12 #[.slice A n c] w fun e w' => e = .returned (.bool true) ∧ Below w.heap.size w w' := by
  have hn : n ≤ 1048576 := hC.elim fun _ h => h.2.2.1
  have hn2 : ¬ 1048576 < n := by omega
  go_enter Try.func12, Try.ntmps12
  go_wp2_with fail
  (with_reducible refine (DrawDriverNew_any _ _ _ _ hC).mono ?_); rintro e w1 ⟨rm, tr, rfl, hb1⟩; have hz1 := hb1.size; (try simp at hz1)
  have G1 := Lib.hid (impl_DriverNewV rm tr)
  have G2 := Lib.hid (spec_DriverNewV rm tr)
  have hbare : (bornDriver rm tr).bare := by unfold bornDriver; split <;> exact ⟨⟨rfl, rfl⟩, rfl, rfl⟩
  go_wp2_with fail
  (with_reducible refine (G1.out _).mono ?_); rintro e w2 ⟨cs1, rfl, nil1, is1, hb2⟩; have hz2 := hb2.size; (try simp at hz2)
  have l1 := Lib.hid is1.len
  have o1 := Lib.hid is1.one
  go_wp2_with ((with_reducible refine at_store 61 (.tmp 5) (.tmp 23) rfl ?_); go_must (refine wpList_storeB (g := w2.heap.size) (t := 61) (cs := #[.int .i64 0, .int .i64 0, .int .i64 0, .int .i64 0, .int .i64 0, .int .i64 0, .int .i64 0, .slice none 0 0, .bool false, .int .i64 0, .int .i64 0, .slice none 0 0, .int .i64 0, .int .i64 0, .bool false, .bool false, .bool false, .bool false, .slice none 0 0, .slice none 0 0, .int .i64 0, .int .i64 0]) (by repeat (first | (with_reducible exact (Blk.new w2 _ _)) | (with_reducible refine Blk.drew ?_) | (with_reducible refine Blk.drewN ?_ _) | (with_reducible refine Blk.alloc ?_ _) | (with_reducible refine Blk.far ?_ ?_ _) | omega | (focus (simp; done)) | (focus (simp; omega)))) 61 (.tmp 5) (.tmp 23) rfl (by rfl) 0 rfl (cs1) rfl (sz_impl_Driver.trans (congrArg some (Eq.symm (l1.out)))) (o1.out) (by rw [l1.out]; simp) (cs1) (st_all (by rw [l1.out]; rfl)) ?_; intro w3 N3 ho3; have hz3 := ho3.size; (try simp at hz3); have S3 := N3; (try simp only [World.size_alloc, List.setIfInBounds_toArray, List.set_cons_zero, List.set_cons_succ] at S3); have S3l := S3.lt; (try simp only [World.size_alloc] at S3l)))
  go_wp2_with fail
  (with_reducible refine (G2.out _).mono ?_); rintro e w4 ⟨cs2, rfl, is2, hb4⟩; have hz4 := hb4.size; (try simp at hz4); have S4 := Blk.lift S3 hb4 (by repeat (first | (with_reducible exact S3) | (with_reducible refine Blk.drew ?_) | (with_reducible refine Blk.drewN ?_ _) | (with_reducible refine Blk.alloc ?_ _) | (with_reducible refine Blk.far ?_ ?_ _) | omega | (focus (simp; done)) | (focus (simp; omega)))); (try simp only [World.size_alloc, List.setIfInBounds_toArray, List.set_cons_zero, List.set_cons_succ] at S4); have S4l := S4.lt; (try simp only [World.size_alloc] at S4l)
  have l2 := Lib.hid is2.len
  have o2 := Lib.hid is2.one
  go_wp2_with (first | ((with_reducible refine at_store 61 (.tmp 7) (.tmp 29) rfl ?_); go_must (refine wpList_storeB (g := w4.heap.size) (t := 61) (cs := #[.int .i64 0, .int .i64 0, .int .i64 0, .int .i64 0, .int .i64 0, .int .i64 0, .int .i64 0, .slice none 0 0, .bool false, .int .i64 0, .int .i64 0, .slice none 0 0, .int .i64 0, .int .i64 0, .bool false, .bool false, .bool false, .bool false, .slice none 0 0, .slice none 0 0, .int .i64 0, .int .i64 0]) (by repeat (first | (with_reducible exact (Blk.new w4 _ _)) | (with_reducible refine Blk.drew ?_) | (with_reducible refine Blk.drewN ?_ _) | (with_reducible refine Blk.alloc ?_ _) | (with_reducible refine Blk.far ?_ ?_ _) | omega | (focus (simp; done)) | (focus (simp; omega)))) 61 (.tmp 7) (.tmp 29) rfl (by rfl) 0 rfl (cs2) rfl (sz_impl_Driver.trans (congrArg some (Eq.symm (l2.out)))) (o2.out) (by rw [l2.out]; simp) (cs2) (st_all (by rw [l2.out]; rfl)) ?_; intro w5 N5 ho5; have hz5 := ho5.size; (try simp at hz5); have S5 := Blk.liftO S4 ho5 (by repeat (first | (with_reducible exact S4) | (with_reducible refine Blk.drew ?_) | (with_reducible refine Blk.drewN ?_ _) | (with_reducible refine Blk.alloc ?_ _) | (with_reducible refine Blk.far ?_ ?_ _) | omega | (focus (simp; done)) | (focus (simp; omega)))) (by first | omega | (simp; done) | (simp; omega)); (try simp only [World.size_alloc, List.setIfInBounds_toArray, List.set_cons_zero, List.set_cons_succ] at S5); have S5l := S5.lt; (try simp only [World.size_alloc] at S5l); have T5 := N5; (try simp only [World.size_alloc, List.setIfInBounds_toArray, List.set_cons_zero, List.set_cons_succ] at T5); have T5l := T5.lt; (try simp only [World.size_alloc] at T5l))) | ((with_reducible refine at_load 61 (.tmp 5) rfl ?_); go_must (refine wpList_loadB (by repeat (first | (with_reducible exact S5) | (with_reducible apply Blk.drew) | (with_reducible apply Blk.drewN) | (with_reducible apply Blk.alloc) | (with_reducible apply Blk.far) | omega | (focus (simp; done)) | (focus (simp; omega)))) 61 (.tmp 5) rfl (by rfl) 0 rfl (cs1) (sub_all _) Try.underlying61 rfl (sz_impl_Driver.trans (congrArg some (Eq.symm (l1.out)))) ?_)) | ((with_reducible refine at_load 61 (.tmp 7) rfl ?_); go_must (refine wpList_loadB (by repeat (first | (with_reducible exact T5) | (with_reducible apply Blk.drew) | (with_reducible apply Blk.drewN) | (with_reducible apply Blk.alloc) | (with_reducible apply Blk.far) | omega | (focus (simp; done)) | (focus (simp; omega)))) 61 (.tmp 7) rfl (by rfl) 0 rfl (cs2) (sub_all _) Try.underlying61 rfl (sz_impl_Driver.trans (congrArg some (Eq.symm (l2.out)))) ?_)))
  go_wp2_with fail
  (with_reducible refine (sameDriverN cs1 cs2 _ _ (is1.below (by repeat (first | (with_reducible exact b_refl _) | (with_reducible refine b_alloc ?_ _) | (with_reducible refine b_drew ?_) | (with_reducible refine b_drewN ?_ _) | (with_reducible refine b_set ?_ ?_ _) | (with_reducible refine b_trans ?_ (by assumption)) | (with_reducible refine b_only ?_ (by assumption) ?_) | omega | (focus (simp; done)) | (focus (simp; omega))))) (is2.below (by repeat (first | (with_reducible exact b_refl _) | (with_reducible refine b_alloc ?_ _) | (with_reducible refine b_drew ?_) | (with_reducible refine b_drewN ?_ _) | (with_reducible refine b_set ?_ ?_ _) | (with_reducible refine b_trans ?_ (by assumption)) | (with_reducible refine b_only ?_ (by assumption) ?_) | omega | (focus (simp; done)) | (focus (simp; omega))))) hbare).mono ?_); rintro e w6 ⟨rfl, hb6⟩; have hz6 := hb6.size; (try simp at hz6); have S6 := Blk.lift S5 hb6 (by repeat (first | (with_reducible exact S5) | (with_reducible refine Blk.drew ?_) | (with_reducible refine Blk.drewN ?_ _) | (with_reducible refine Blk.alloc ?_ _) | (with_reducible refine Blk.far ?_ ?_ _) | omega | (focus (simp; done)) | (focus (simp; omega)))); (try simp only [World.size_alloc, List.setIfInBounds_toArray, List.set_cons_zero, List.set_cons_succ] at S6); have S6l := S6.lt; (try simp only [World.size_alloc] at S6l); have T6 := Blk.lift T5 hb6 (by repeat (first | (with_reducible exact T5) | (with_reducible refine Blk.drew ?_) | (with_reducible refine Blk.drewN ?_ _) | (with_reducible refine Blk.alloc ?_ _) | (with_reducible refine Blk.far ?_ ?_ _) | omega | (focus (simp; done)) | (focus (simp; omega)))); (try simp only [World.size_alloc, List.setIfInBounds_toArray, List.set_cons_zero, List.set_cons_succ] at T6); have T6l := T6.lt; (try simp only [World.size_alloc] at T6l)
  by_cases k : (newPort rm tr).ok = true
  case' neg =>
    have k2 : (newPort rm tr).ok = false := by simpa using k
    rw [k2]
    clear k k2
    go_wp2_with (first | ((with_reducible refine at_load 61 (.tmp 5) rfl ?_); go_must (refine wpList_loadB (by repeat (first | (with_reducible exact S6) | (with_reducible apply Blk.drew) | (with_reducible apply Blk.drewN) | (with_reducible apply Blk.alloc) | (with_reducible apply Blk.far) | omega | (focus (simp; done)) | (focus (simp; omega)))) 61 (.tmp 5) rfl (by rfl) 0 rfl (cs1) (sub_all _) Try.underlying61 rfl (sz_impl_Driver.trans (congrArg some (Eq.symm (l1.out)))) ?_)) | ((with_reducible refine at_load 61 (.tmp 7) rfl ?_); go_must (refine wpList_loadB (by repeat (first | (with_reducible exact T6) | (with_reducible apply Blk.drew) | (with_reducible apply Blk.drewN) | (with_reducible apply Blk.alloc) | (with_reducible apply Blk.far) | omega | (focus (simp; done)) | (focus (simp; omega)))) 61 (.tmp 7) rfl (by rfl) 0 rfl (cs2) (sub_all _) Try.underlying61 rfl (sz_impl_Driver.trans (congrArg some (Eq.symm (l2.out)))) ?_)))
    go_wp2_with fail
    (with_reducible refine (sameDriverN cs1 cs2 _ _ (is1.below (by repeat (first | (with_reducible exact b_refl _) | (with_reducible refine b_alloc ?_ _) | (with_reducible refine b_drew ?_) | (with_reducible refine b_drewN ?_ _) | (with_reducible refine b_set ?_ ?_ _) | (with_reducible refine b_trans ?_ (by assumption)) | (with_reducible refine b_only ?_ (by assumption) ?_) | omega | (focus (simp; done)) | (focus (simp; omega))))) (is2.below (by repeat (first | (with_reducible exact b_refl _) | (with_reducible refine b_alloc ?_ _) | (with_reducible refine b_drew ?_) | (with_reducible refine b_drewN ?_ _) | (with_reducible refine b_set ?_ ?_ _) | (with_reducible refine b_trans ?_ (by assumption)) | (with_reducible refine b_only ?_ (by assumption) ?_) | omega | (focus (simp; done)) | (focus (simp; omega))))) hbare).mono ?_); rintro e w7 ⟨rfl, hb7⟩; have hz7 := hb7.size; (try simp at hz7)
    go_wp2
    go_ret
    exact ⟨rfl, (by repeat (first | (with_reducible exact b_refl _) | (with_reducible refine b_alloc ?_ _) | (with_reducible refine b_drew ?_) | (with_reducible refine b_drewN ?_ _) | (with_reducible refine b_set ?_ ?_ _) | (with_reducible refine b_trans ?_ (by assumption)) | (with_reducible refine b_only ?_ (by assumption) ?_) | omega | (focus (simp; done)) | (focus (simp; omega))))⟩
  have hd : bornDriver rm tr = newDriver rm tr := if_pos k
  have hpd : bornPort rm tr = newPort rm tr := if_pos k
  have G3 := Lib.hid (impl_PortNewV rm tr)
  rw [hd] at is1 is2
  rw [hpd, k] at G3
  rw [k]
  have kd := newDriver_ok k
  have hsm : (newDriver rm tr).small := by have := bornDriver_small rm tr; rwa [hd] at this
  have hpb : (newDriver rm tr).port.bare := ⟨rfl, rfl⟩
  clear k hd hpd hbare
  go_wp2_with fail
  (with_reducible refine (G3.out _).mono ?_); rintro e w7 ⟨cs3, rfl, nil3, is3, hb7⟩; have hz7 := hb7.size; (try simp at hz7); have S7 := Blk.lift S6 hb7 (by repeat (first | (with_reducible exact S6) | (with_reducible refine Blk.drew ?_) | (with_reducible refine Blk.drewN ?_ _) | (with_reducible refine Blk.alloc ?_ _) | (with_reducible refine Blk.far ?_ ?_ _) | omega | (focus (simp; done)) | (focus (simp; omega)))); (try simp only [World.size_alloc, List.setIfInBounds_toArray, List.set_cons_zero, List.set_cons_succ] at S7); have S7l := S7.lt; (try simp only [World.size_alloc] at S7l)
  have l3 := Lib.hid is3.len
  have o3 := Lib.hid is3.one
  have ip : PortIs w7 ((cs3.set 3 (.int .i64 13)).set 4 (.int .i64 3)) (newDriver rm tr).port := is3.en3 13 3
  have m3 := Lib.hid (show ((cs3.set 3 (Value.int .i64 13)).set 4 (Value.int .i64 3)).length = 18 by rw [List.length_set, List.length_set]; exact l3.out)
  obtain ⟨u3, q3⟩ := at_len l3.out 3 (by decide)
  obtain ⟨u4, q4⟩ := at_len l3.out 4 (by decide)
  have Q3 := Lib.hid q3
  have Q4 := Lib.hid q4
  obtain ⟨vp, IA, OA, ni, ci, no, co, ecs, hp, hi, ho⟩ := id is1
  have E := Lib.hid ecs
  have lp := Lib.hid hp.len
  have z1 : ni = 0 := hi.len.symm
  have z2 : no = 0 := ho.len.symm
  subst z1; subst z2
  clear ecs q3 q4 hi ho
  go_wp2_with (first | ((with_reducible refine at_store 33 (.tmp 9) (.tmp 56) rfl ?_); go_must (refine wpList_storeB (g := w7.heap.size) (t := 33) (cs := #[.int .i64 0, .int .i64 0, .int .i64 0, .int .i64 0, .int .i64 0, .int .i64 0, .int .i64 0, .slice none 0 0, .bool false, .int .i64 0, .int .i64 0, .slice none 0 0, .int .i64 0, .int .i64 0, .bool false, .bool false, .bool false, .bool false]) (by repeat (first | (with_reducible exact (Blk.new w7 _ _)) | (with_reducible refine Blk.drew ?_) | (with_reducible refine Blk.drewN ?_ _) | (with_reducible refine Blk.alloc ?_ _) | (with_reducible refine Blk.far ?_ ?_ _) | omega | (focus (simp; done)) | (focus (simp; omega)))) 33 (.tmp 9) (.tmp 56) rfl (by rfl) 0 rfl (cs3) rfl (sz_impl_Port.trans (congrArg some (Eq.symm (l3.out)))) (o3.out) (by rw [l3.out]; simp) (cs3) (st_all (by rw [l3.out]; rfl)) ?_; intro w8 N8 ho8; have hz8 := ho8.size; (try simp at hz8); have S8 := Blk.liftO S7 ho8 (by repeat (first | (with_reducible exact S7) | (with_reducible refine Blk.drew ?_) | (with_reducible refine Blk.drewN ?_ _) | (with_reducible refine Blk.alloc ?_ _) | (with_reducible refine Blk.far ?_ ?_ _) | omega | (focus (simp; done)) | (focus (simp; omega)))) (by first | omega | (simp; done) | (simp; omega)); (try simp only [World.size_alloc, List.setIfInBounds_toArray, List.set_cons_zero, List.set_cons_succ] at S8); have S8l := S8.lt; (try simp only [World.size_alloc] at S8l); have P8 := N8; (try simp only [World.size_alloc, List.setIfInBounds_toArray, List.set_cons_zero, List.set_cons_succ] at P8); have P8l := P8.lt; (try simp only [World.size_alloc] at P8l); have x3 := P8.cellv 3 Q3.out; have x4 := P8.cellv 4 Q4.out; have y3 := P8.frozen 3; have y4 := P8.frozen 4; have Pz := Blk.to2 ((P8.set_ 3 (.int .i64 13)).set_ 4 (.int .i64 3)) (cs' := ((cs3.set 3 (.int .i64 13)).set 4 (.int .i64 3)).toArray) (by simp); have Sz := (S8.far (show w2.heap.size ≠ (⟨w7.heap.size, 3, none⟩ : Addr).block by simp; omega) (.int .i64 13)).far (show w2.heap.size ≠ (⟨w7.heap.size, 4, none⟩ : Addr).block by simp; omega) (.int .i64 3))) | ((with_reducible refine at_load 61 (.tmp 5) rfl ?_); go_must (refine wpList_loadB (by repeat (first | (with_reducible exact Sz) | (with_reducible apply Blk.drew) | (with_reducible apply Blk.drewN) | (with_reducible apply Blk.alloc) | (with_reducible apply Blk.far) | omega | (focus (simp; done)) | (focus (simp; omega)))) 61 (.tmp 5) rfl (by rfl) 0 rfl (cs1) (sub_all _) Try.underlying61 rfl (sz_impl_Driver.trans (congrArg some (Eq.symm (l1.out)))) ?_)))
  go_wp2_with fail
  (with_reducible refine (impl_DriverValidW cs1 _ _ (is1.below (by repeat (first | (with_reducible exact b_refl _) | (with_reducible refine b_alloc ?_ _) | (with_reducible refine b_drew ?_) | (with_reducible refine b_drewN ?_ _) | (with_reducible refine b_set ?_ ?_ _) | (with_reducible refine b_trans ?_ (by assumption)) | (with_reducible refine b_only ?_ (by assumption) ?_) | omega | (focus (simp; done)) | (focus (simp; omega))))) hsm true kd).mono ?_); rintro e w9 ⟨rfl, hb9⟩; have hz9 := hb9.size; (try simp at hz9); have S9 := Blk.lift Sz hb9 (by repeat (first | (with_reducible exact Sz) | (with_reducible refine Blk.drew ?_) | (with_reducible refine Blk.drewN ?_ _) | (with_reducible refine Blk.alloc ?_ _) | (with_reducible refine Blk.far ?_ ?_ _) | omega | (focus (simp; done)) | (focus (simp; omega)))); (try simp only [World.size_alloc, List.setIfInBounds_toArray, List.set_cons_zero, List.set_cons_succ] at S9); have S9l := S9.lt; (try simp only [World.size_alloc] at S9l); have P9 := Blk.lift Pz hb9 (by repeat (first | (with_reducible exact Pz) | (with_reducible refine Blk.drew ?_) | (with_reducible refine Blk.drewN ?_ _) | (with_reducible refine Blk.alloc ?_ _) | (with_reducible refine Blk.far ?_ ?_ _) | omega | (focus (simp; done)) | (focus (simp; omega)))); (try simp only [World.size_alloc, List.setIfInBounds_toArray, List.set_cons_zero, List.set_cons_succ] at P9); have P9l := P9.lt; (try simp only [World.size_alloc] at P9l)
  go_wp2_with (first | ((with_reducible refine at_load 33 (.tmp 66) rfl ?_); go_must (refine wpList_loadB (by repeat (first | (with_reducible exact S9) | (with_reducible apply Blk.drew) | (with_reducible apply Blk.drewN) | (with_reducible apply Blk.alloc) | (with_reducible apply Blk.far) | omega | (focus (simp; done)) | (focus (simp; omega)))) 33 (.tmp 66) rfl (by rfl) 0 rfl (vp) (sub_l E.out) Try.underlying33 rfl (sz_impl_Port.trans (congrArg some (Eq.symm (lp.out)))) ?_)) | ((with_reducible refine at_load 33 (.tmp 9) rfl ?_); go_must (refine wpList_loadB (by repeat (first | (with_reducible exact P9) | (with_reducible apply Blk.drew) | (with_reducible apply Blk.drewN) | (with_reducible apply Blk.alloc) | (with_reducible apply Blk.far) | omega | (focus (simp; done)) | (focus (simp; omega)))) 33 (.tmp 9) rfl (by rfl) 0 rfl ((cs3.set 3 (.int .i64 13)).set 4 (.int .i64 3)) (sub_all _) Try.underlying33 rfl (sz_impl_Port.trans (congrArg some (Eq.symm (m3.out)))) ?_)))
  go_wp2_with fail
  (with_reducible refine (samePortN vp _ _ _ (hp.below (by repeat (first | (with_reducible exact b_refl _) | (with_reducible refine b_alloc ?_ _) | (with_reducible refine b_drew ?_) | (with_reducible refine b_drewN ?_ _) | (with_reducible refine b_set ?_ ?_ _) | (with_reducible refine b_trans ?_ (by assumption)) | (with_reducible refine b_only ?_ (by assumption) ?_) | omega | (focus (simp; done)) | (focus (simp; omega))))) (ip.below (by repeat (first | (with_reducible exact b_refl _) | (with_reducible refine b_alloc ?_ _) | (with_reducible refine b_drew ?_) | (with_reducible refine b_drewN ?_ _) | (with_reducible refine b_set ?_ ?_ _) | (with_reducible refine b_trans ?_ (by assumption)) | (with_reducible refine b_only ?_ (by assumption) ?_) | omega | (focus (simp; done)) | (focus (simp; omega))))) hpb).mono ?_); rintro e w10 ⟨rfl, hb10⟩; have hz10 := hb10.size; (try simp at hz10); have S10 := Blk.lift S9 hb10 (by repeat (first | (with_reducible exact S9) | (with_reducible refine Blk.drew ?_) | (with_reducible refine Blk.drewN ?_ _) | (with_reducible refine Blk.alloc ?_ _) | (with_reducible refine Blk.far ?_ ?_ _) | omega | (focus (simp; done)) | (focus (simp; omega)))); (try simp only [World.size_alloc, List.setIfInBounds_toArray, List.set_cons_zero, List.set_cons_succ] at S10); have S10l := S10.lt; (try simp only [World.size_alloc] at S10l)
  have c18 := S10.cellv 18 (tail_at E.out lp.out 0 rfl)
  have c19 := S10.cellv 19 (tail_at E.out lp.out 1 rfl)
  have c20 : w10.cell? ⟨w2.heap.size, 20, none⟩ = some (.int .i64 0) := S10.cellv 20 (tail_at E.out lp.out 2 rfl)
  have c21 : w10.cell? ⟨w2.heap.size, 21, none⟩ = some (.int .i64 0) := S10.cellv 21 (tail_at E.out lp.out 3 rfl)
  go_wp2
  go_ret
  exact ⟨rfl, (by repeat (first | (with_reducible exact b_refl _) | (with_reducible refine b_alloc ?_ _) | (with_reducible refine b_drew ?_) | (with_reducible refine b_drewN ?_ _) | (with_reducible refine b_set ?_ ?_ _) | (with_reducible refine b_trans ?_ (by assumption)) | (with_reducible refine b_only ?_ (by assumption) ?_) | omega | (focus (simp; done)) | (focus (simp; omega))))⟩
set_option maxHeartbeats 1000000 in
theorem FnDriverNew_calls (A : Option Addr) (n c : Nat) (w : World) (hC : CodeIn w A n c) : Calls Try.prog 12 #[.slice A n c] w fun e w' => e = .returned (.bool true) ∧ Below w.heap.size w w' := by
  by_cases hn : n ≤ 1048576
  · exact FnDriverNew_small A n c w (hC.code hn)
  · have hl := hC.len
    have hn2 : (1048576 : Int) < n := by omega
    go_enter Try.func12, Try.ntmps12
    go_wp2
    go_ret
    exact ⟨rfl, b_refl _⟩
set_option maxRecDepth 100000 in
theorem FnDriverNew_lifted (os : Os) (started : os.Started) (H : Type) (enc : TypeId × Value → H) :
    ReturnsInHanded {} Try.checked os 12 .any (Rows.fnDriverNewSpec.pre6 enc Try.prog Try.f12 Rows.fnDriverNewRow.domain false) (Rows.fnDriverNewSpec.post enc Try.prog Try.f12 false true false false) := by
  refine returnsInHanded_of_change (C := Try.checked) own started (by kernel_rfl) Try.func12
    (ChangeSpec.witness6 (enc := enc) (C := Try.checked) false ⟨#[], #[.slice none 0 0], []⟩ 8 (by kernel_rfl) (by kernel_rfl) (by kernel_rfl) (by kernel_rfl)) ?_
  intro W base args ds gs before hval0 hW _ _
  have hval : ∀ (j : Nat) t v, Try.f12.params[j]? = some t → args[j]? = some v → Value.okWide Try.prog W .any base t v := hval0
  have hW2 := hW
  obtain ⟨p, q, hA0, hV, rfl, _, _⟩ := hW2
  have hA : DataW.TrodAll enc Try.prog W 0 (fun _ => true) true Try.f12.params.toList args.toList ds p := hA0
  rw [Try.params12] at hA hval
  obtain ⟨v0, d0, rfl, rfl, h0⟩ := trodAll_one hA
  obtain ⟨rfl, rfl⟩ := trodVars_none hV
  obtain ⟨A0, n, c, rfl, hC⟩ := open_code (hval 0 _ v0 rfl rfl) h0
  refine (FnDriverNew_calls A0 n c W hC).mono fun e W' ⟨he, hb⟩ => ?_
  subst he
  exact ⟨_, rfl, law_post (f := Try.f12) (s := Rows.fnDriverNewSpec) 4 laid_out (by kernel_rfl) rfl (by kernel_rfl) Try.underlying4 hW rfl hb⟩
theorem FnDriverNew_holds : Rows.FnDriverNewSaid :=
  OpenClaim.holds_of_wide 12 Try.f12 rfl rfl rfl rfl rfl rfl rfl ⟨rfl, rfl, rfl, rfl, rfl⟩ rfl rfl rfl rfl rfl (by kernel_rfl) Try.func12 (by kernel_rfl)
    (of_decide_eq_true (by kernel_rfl)) (by unfold Func.isWrapper; rw [if_neg (of_decide_eq_false (by kernel_rfl))]; exact ⟨rfl, rfl⟩)
    (fun os started H enc _ => FnDriverNew_lifted os started H enc)

end Go.Proofs.Ytpbhidlglcmlnaa
