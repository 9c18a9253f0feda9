/-
  sameGot, sameRecv, sameSend, samePort, sameDriver on ports and drivers without bytes.
-/
import Derived.Test.YtpbhidlglcmlnaaDriverNew
import Derived.Test.YtpbhidlglcmlnaaDrawNew
set_option linter.unusedVariables false
set_option linter.unusedSimpArgs false
namespace Go.Proofs.Ytpbhidlglcmlnaa
open Go.ChangeShapes Go.WideShapes Go.ChangeAt Go.RowKit

theorem sameInts_same (A B : Option Addr) (n c d : Nat) (xs : List Int) (w : World) (hx : Ints w A n xs) (hy : Ints w B n xs) (hn : n ≤ 1099511627776) :
    Calls Try.prog 85 #[.slice A n c, .slice B n d] w fun e w' => e = .returned (.bool true) ∧ Below w.heap.size w w' := by
  refine (sameInts_any A B n n c d xs xs w hx hy hn hn).mono ?_
  rintro e w' ⟨rfl, hb⟩
  exact ⟨by simp, hb⟩
theorem Ints.zero {w : World} (A : Option Addr) : Ints w A 0 [] := ⟨rfl, fun h => absurd h (by omega)⟩
theorem sameGot_nil (A B : Option Addr) (c d : Nat) (w : World) : Calls Try.prog 103 #[.slice A 0 c, .slice B 0 d] w fun e w' => e = .returned (.bool true) ∧ Below w.heap.size w w' := by
  go_enter Try.func103, Try.ntmps103
  go_wp2
  go_loop [5] (fun i => i = .int .i64 0) (fun _ => 0)
  case atStart => rfl
  case round =>
    subst hrel
    go_wp2
    go_ret
    exact ⟨rfl, (by repeat (first | (with_reducible exact b_refl _) | (with_reducible refine b_alloc ?_ _) | (with_reducible refine b_drew ?_) | (with_reducible refine b_drewN ?_ _) | (with_reducible refine b_set ?_ ?_ _) | (with_reducible refine b_trans ?_ (by assumption)) | (with_reducible refine b_only ?_ (by assumption) ?_) | omega | (focus (simp; done)) | (focus (simp; omega))))⟩
theorem sameRecv_nil (rr rt ra : Int) (rl : Bool) (RA RA2 : Option Addr) (c d : Nat) (w : World) : Calls Try.prog 86 #[.agg #[.int .i64 rr, .int .i64 rt, .slice RA 0 c, .bool rl, .int .i64 ra], .agg #[.int .i64 rr, .int .i64 rt, .slice RA2 0 d, .bool rl, .int .i64 ra]] w fun e w' => e = .returned (.bool true) ∧ Below w.heap.size w w' := by
  go_enter Try.func86, Try.ntmps86
  go_wp2_with fail
  (with_reducible refine (sameGot_nil _ _ _ _ _).mono ?_); rintro e w1 ⟨rfl, hb1⟩; have hz1 := hb1.size; (try simp at hz1)
  go_wp2
  go_ret
  exact ⟨rfl, (by repeat (first | (with_reducible exact b_refl _) | (with_reducible refine b_alloc ?_ _) | (with_reducible refine b_drew ?_) | (with_reducible refine b_drewN ?_ _) | (with_reducible refine b_set ?_ ?_ _) | (with_reducible refine b_trans ?_ (by assumption)) | (with_reducible refine b_only ?_ (by assumption) ?_) | omega | (focus (simp; done)) | (focus (simp; omega))))⟩
theorem sameSend_nil (sr sh sl : Int) (SA SA2 : Option Addr) (c d : Nat) (w : World) : Calls Try.prog 87 #[.agg #[.int .i64 sr, .slice SA 0 c, .int .i64 sh, .int .i64 sl], .agg #[.int .i64 sr, .slice SA2 0 d, .int .i64 sh, .int .i64 sl]] w fun e w' => e = .returned (.bool true) ∧ Below w.heap.size w w' := by
  go_enter Try.func87, Try.ntmps87
  go_wp2_with fail
  (with_reducible refine (sameInts_same _ _ 0 _ _ [] _ (Ints.zero _) (Ints.zero _) (by omega)).mono ?_); rintro e w1 ⟨rfl, hb1⟩; have hz1 := hb1.size; (try simp at hz1)
  go_wp2
  go_ret
  exact ⟨rfl, (by repeat (first | (with_reducible exact b_refl _) | (with_reducible refine b_alloc ?_ _) | (with_reducible refine b_drew ?_) | (with_reducible refine b_drewN ?_ _) | (with_reducible refine b_set ?_ ?_ _) | (with_reducible refine b_trans ?_ (by assumption)) | (with_reducible refine b_only ?_ (by assumption) ?_) | omega | (focus (simp; done)) | (focus (simp; omega))))⟩
def PortD.bare (d : PortD) : Prop := d.gs = [] ∧ d.xs = []
set_option maxHeartbeats 2000000 in
theorem samePortN (vs vs' : List Value) (d : PortD) (w : World) (h : PortIs w vs d) (h' : PortIs w vs' d) (he : d.bare) :
    Calls Try.prog 48 #[.agg vs.toArray, .agg vs'.toArray] w fun e w' => e = .returned (.bool true) ∧ Below w.heap.size w w' := by
  obtain ⟨b, p, s, en, ct, rr, rt, ra, sr, sh, sl, rl, ma, mb, mc, md, gs, xs⟩ := d
  obtain ⟨e1, e2⟩ := he
  simp only at e1 e2
  subst e1; subst e2
  obtain ⟨RA, SA, rn, sn, rc, sc, rfl, hg, hx⟩ := h
  obtain ⟨RA2, SA2, rn2, sn2, rc2, sc2, rfl, hg2, hx2⟩ := h'
  have k1 : rn = 0 := hg.len.symm
  have k2 : sn = 0 := hx.len.symm
  have k3 : rn2 = 0 := hg2.len.symm
  have k4 : sn2 = 0 := hx2.len.symm
  subst k1; subst k2; subst k3; subst k4
  clear hg hx hg2 hx2
  go_enter Try.func48, Try.ntmps48
  go_wp2_with (first | (go_at_call 86; go_must ((with_reducible refine (sameRecv_nil _ _ _ _ _ _ _ _ _).mono ?_); rintro e w1 ⟨rfl, hb1⟩; have hz1 := hb1.size; (try simp at hz1); have F1 := ((Blk.new w _ _).alloc _).below hb1 (by first | omega | (simp; done) | (simp; omega)); (try simp only [World.size_alloc, List.setIfInBounds_toArray, List.set_cons_zero, List.set_cons_succ] at F1); have F1l := F1.lt; (try simp only [World.size_alloc] at F1l); have G1 := (Blk.new (w.alloc _) _ _).below hb1 (by first | omega | (simp; done) | (simp; omega)); (try simp only [World.size_alloc, List.setIfInBounds_toArray, List.set_cons_zero, List.set_cons_succ] at G1); have G1l := G1.lt; (try simp only [World.size_alloc] at G1l))) | (refine at_load 29 (.tmp 39) rfl ?_; go_must (refine wpList_loadB (Blk.now F1 (by repeat (first | (with_reducible exact F1) | (with_reducible refine Blk.drew ?_) | (with_reducible refine Blk.drewN ?_ _) | (with_reducible refine Blk.alloc ?_ _) | (with_reducible refine Blk.far ?_ ?_ _) | omega | (focus (simp; done)) | (focus (simp; omega))))) 29 (.tmp 39) rfl (by rfl) 10 rfl [.int .i64 sr, .slice SA 0 sc, .int .i64 sh, .int .i64 sl] rfl Try.underlying29 rfl sz_impl_Sender ?_)) | (refine at_load 29 (.tmp 41) rfl ?_; go_must (refine wpList_loadB (Blk.now G1 (by repeat (first | (with_reducible exact G1) | (with_reducible refine Blk.drew ?_) | (with_reducible refine Blk.drewN ?_ _) | (with_reducible refine Blk.alloc ?_ _) | (with_reducible refine Blk.far ?_ ?_ _) | omega | (focus (simp; done)) | (focus (simp; omega))))) 29 (.tmp 41) rfl (by rfl) 10 rfl [.int .i64 sr, .slice SA2 0 sc2, .int .i64 sh, .int .i64 sl] rfl Try.underlying29 rfl sz_impl_Sender ?_)) | (go_at_call 87; go_must ((with_reducible refine (sameSend_nil _ _ _ _ _ _ _ _).mono ?_); rintro e w2 ⟨rfl, hb2⟩; have hz2 := hb2.size; (try simp at hz2))))
  go_ret
  exact ⟨rfl, (by repeat (first | (with_reducible exact b_refl _) | (with_reducible refine b_alloc ?_ _) | (with_reducible refine b_drew ?_) | (with_reducible refine b_drewN ?_ _) | (with_reducible refine b_set ?_ ?_ _) | (with_reducible refine b_trans ?_ (by assumption)) | (with_reducible refine b_only ?_ (by assumption) ?_) | omega | (focus (simp; done)) | (focus (simp; omega))))⟩
def DriverD.bare (d : DriverD) : Prop := d.port.bare ∧ d.inn = [] ∧ d.out = []
set_option maxHeartbeats 2000000 in
theorem sameDriverN (cs cs' : List Value) (d : DriverD) (w : World) (h : DriverIs w cs d) (h' : DriverIs w cs' d) (he : d.bare) :
    Calls Try.prog 47 #[.agg cs.toArray, .agg cs'.toArray] w fun e w' => e = .returned (.bool true) ∧ Below w.heap.size w w' := by
  obtain ⟨pd, inn, out, wr, lo⟩ := d
  obtain ⟨e0, e1, e2⟩ := he
  simp only at e0 e1 e2
  subst e1; subst e2
  obtain ⟨vp, IA, OA, ni, ci, no, co, e, hp, hi, ho⟩ := h
  obtain ⟨up, JA, QA, mi, di, mo, dO, e', gp, gi, go⟩ := h'
  have E := Lib.hid e
  have E' := Lib.hid e'
  have lp := Lib.hid hp.len
  have kp := Lib.hid gp.len
  have k1 : ni = 0 := hi.len.symm
  have k2 : no = 0 := ho.len.symm
  have k3 : mi = 0 := gi.len.symm
  have k4 : mo = 0 := go.len.symm
  subst k1; subst k2; subst k3; subst k4
  clear e e'
  simp only at *
  go_enter Try.func47, Try.ntmps47
  go_wp2_with (first | ((with_reducible refine at_load 33 (.tmp 5) rfl ?_); go_must (refine wpList_loadB (by repeat (first | (with_reducible exact (Blk.new w _ _)) | (with_reducible apply Blk.drew) | (with_reducible apply Blk.drewN) | (with_reducible apply Blk.alloc) | (with_reducible apply Blk.far) | omega | (focus (simp; done)) | (focus (simp; omega)))) 33 (.tmp 5) rfl (by rfl) 0 rfl (vp) (sub_l E.out) Try.underlying33 rfl (sz_impl_Port.trans (congrArg some (Eq.symm (lp.out)))) ?_)) | ((with_reducible refine at_load 33 (.tmp 7) rfl ?_); go_must (refine wpList_loadB (by repeat (first | (with_reducible exact (Blk.new1 w _ _ _)) | (with_reducible apply Blk.drew) | (with_reducible apply Blk.drewN) | (with_reducible apply Blk.alloc) | (with_reducible apply Blk.far) | omega | (focus (simp; done)) | (focus (simp; omega)))) 33 (.tmp 7) rfl (by rfl) 0 rfl (up) (sub_l E'.out) Try.underlying33 rfl (sz_impl_Port.trans (congrArg some (Eq.symm (kp.out)))) ?_)))
  go_wp2_with fail
  (with_reducible refine (samePortN vp up pd _ (hp.below (by repeat (first | (with_reducible exact b_refl _) | (with_reducible refine b_alloc ?_ _) | (with_reducible refine b_drew ?_) | (with_reducible refine b_drewN ?_ _) | (with_reducible refine b_set ?_ ?_ _) | (with_reducible refine b_trans ?_ (by assumption)) | (with_reducible refine b_only ?_ (by assumption) ?_) | omega | (focus (simp; done)) | (focus (simp; omega))))) (gp.below (by repeat (first | (with_reducible exact b_refl _) | (with_reducible refine b_alloc ?_ _) | (with_reducible refine b_drew ?_) | (with_reducible refine b_drewN ?_ _) | (with_reducible refine b_set ?_ ?_ _) | (with_reducible refine b_trans ?_ (by assumption)) | (with_reducible refine b_only ?_ (by assumption) ?_) | omega | (focus (simp; done)) | (focus (simp; omega))))) e0).mono ?_); rintro e w1 ⟨rfl, hb1⟩; have hz1 := hb1.size; (try simp at hz1); have F1 := ((Blk.new w _ _).alloc _).below hb1 (by first | omega | (simp; done) | (simp; omega)); (try simp only [World.size_alloc, List.setIfInBounds_toArray, List.set_cons_zero, List.set_cons_succ] at F1); have F1l := F1.lt; (try simp only [World.size_alloc] at F1l); have G1 := (Blk.new (w.alloc _) _ _).below hb1 (by first | omega | (simp; done) | (simp; omega)); (try simp only [World.size_alloc, List.setIfInBounds_toArray, List.set_cons_zero, List.set_cons_succ] at G1); have G1l := G1.lt; (try simp only [World.size_alloc] at G1l)
  have c18 := F1.cellv 18 (tail_at E.out lp.out 0 rfl)
  have d18 := G1.cellv 18 (tail_at E'.out kp.out 0 rfl)
  go_wp2_with fail
  (with_reducible refine (sameInts_same _ _ 0 _ _ [] _ (Ints.zero _) (Ints.zero _) (by omega)).mono ?_); rintro e w2 ⟨rfl, hb2⟩; have hz2 := hb2.size; (try simp at hz2); have F2 := Blk.lift F1 hb2 (by repeat (first | (with_reducible exact F1) | (with_reducible refine Blk.drew ?_) | (with_reducible refine Blk.drewN ?_ _) | (with_reducible refine Blk.alloc ?_ _) | (with_reducible refine Blk.far ?_ ?_ _) | omega | (focus (simp; done)) | (focus (simp; omega)))); (try simp only [World.size_alloc, List.setIfInBounds_toArray, List.set_cons_zero, List.set_cons_succ] at F2); have F2l := F2.lt; (try simp only [World.size_alloc] at F2l); have G2 := Blk.lift G1 hb2 (by repeat (first | (with_reducible exact G1) | (with_reducible refine Blk.drew ?_) | (with_reducible refine Blk.drewN ?_ _) | (with_reducible refine Blk.alloc ?_ _) | (with_reducible refine Blk.far ?_ ?_ _) | omega | (focus (simp; done)) | (focus (simp; omega)))); (try simp only [World.size_alloc, List.setIfInBounds_toArray, List.set_cons_zero, List.set_cons_succ] at G2); have G2l := G2.lt; (try simp only [World.size_alloc] at G2l)
  have e19 := F2.cellv 19 (tail_at E.out lp.out 1 rfl)
  have g19 := G2.cellv 19 (tail_at E'.out kp.out 1 rfl)
  go_wp2_with fail
  (with_reducible refine (sameInts_same _ _ 0 _ _ [] _ (Ints.zero _) (Ints.zero _) (by omega)).mono ?_); rintro e w3 ⟨rfl, hb3⟩; have hz3 := hb3.size; (try simp at hz3); have F3 := Blk.lift F2 hb3 (by repeat (first | (with_reducible exact F2) | (with_reducible refine Blk.drew ?_) | (with_reducible refine Blk.drewN ?_ _) | (with_reducible refine Blk.alloc ?_ _) | (with_reducible refine Blk.far ?_ ?_ _) | omega | (focus (simp; done)) | (focus (simp; omega)))); (try simp only [World.size_alloc, List.setIfInBounds_toArray, List.set_cons_zero, List.set_cons_succ] at F3); have F3l := F3.lt; (try simp only [World.size_alloc] at F3l); have G3 := Blk.lift G2 hb3 (by repeat (first | (with_reducible exact G2) | (with_reducible refine Blk.drew ?_) | (with_reducible refine Blk.drewN ?_ _) | (with_reducible refine Blk.alloc ?_ _) | (with_reducible refine Blk.far ?_ ?_ _) | omega | (focus (simp; done)) | (focus (simp; omega)))); (try simp only [World.size_alloc, List.setIfInBounds_toArray, List.set_cons_zero, List.set_cons_succ] at G3); have G3l := G3.lt; (try simp only [World.size_alloc] at G3l)
  have e20 := F3.cellv 20 (tail_at E.out lp.out 2 rfl)
  have g20 := G3.cellv 20 (tail_at E'.out kp.out 2 rfl)
  have e21 := F3.cellv 21 (tail_at E.out lp.out 3 rfl)
  have g21 := G3.cellv 21 (tail_at E'.out kp.out 3 rfl)
  go_wp2
  go_ret
  exact ⟨rfl, (by repeat (first | (with_reducible exact b_refl _) | (with_reducible refine b_alloc ?_ _) | (with_reducible refine b_drew ?_) | (with_reducible refine b_drewN ?_ _) | (with_reducible refine b_set ?_ ?_ _) | (with_reducible refine b_trans ?_ (by assumption)) | (with_reducible refine b_only ?_ (by assumption) ?_) | omega | (focus (simp; done)) | (focus (simp; omega))))⟩
end Go.Proofs.Ytpbhidlglcmlnaa
