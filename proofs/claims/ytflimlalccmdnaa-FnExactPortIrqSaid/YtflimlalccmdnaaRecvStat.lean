/-
  RecvReady, RecvStatus (the program's and the reference's). Condition: at most 2^20 elements.
-/
import Derived.Test.YtflimlalccmdnaaGot
set_option linter.unusedVariables false
set_option linter.unusedSimpArgs false
namespace Go.Proofs.Ytflimlalccmdnaa
open Go.ChangeShapes Go.WideShapes Go.ChangeAt Go.RowKit

def recvReady (rm tr : Int) (gs : List (Int × Int)) (ag : Int) : Int := if recvOk rm tr gs ag = true then (if gs.length = 0 then 0 else if tr ≤ gs.length then 1 else if 4 ≤ ag then 2 else 0) else 0
def codeBits (c : Int) : Int := if c = 1 then 4 else if c = 2 then 8 else 0
def recvStatus (rm tr : Int) (gs : List (Int × Int)) (lo : Bool) (ag : Int) : Int := if recvOk rm tr gs ag = true then (if lo then 2 else 0) + (if gs.length = 0 then 0 else 1 + codeBits (gs.headD (0, 0)).2) else -1
theorem recvOk_tr {rm tr ag : Int} {gs : List (Int × Int)} (h : recvOk rm tr gs ag = true) : 1 ≤ tr := by
  simp [recvOk, in_] at h
  omega
set_option maxHeartbeats 2000000 in
theorem spec_RecvReady (rr rt : Int) (RA : Option Addr) (rn rc : Nat) (rl : Bool) (ra : Int) (gs : List (Int × Int)) (w : World) (hg : Gots w RA rn gs) (hn : rn ≤ 1048576) :
    Calls Try.prog 22 #[.agg #[.int .i64 rr, .int .i64 rt, .slice RA rn rc, .bool rl, .int .i64 ra]] w fun e w' => e = .returned (.int .i64 (recvReady rr rt gs ra)) ∧ Below w.heap.size w w' := by
  have hl := hg.len
  have c := fun w h => spec_RecvValid rr rt RA rn rc rl ra gs w h (by omega)
  rw [recvReady, hl]
  by_cases k : recvOk rr rt gs ra = true
  case' neg =>
    have k2 : recvOk rr rt gs ra = false := by simpa using k
    rw [if_neg k]
    rw [k2] at c
    have C := Lib.hid c
    clear c k k2 hl
    go_enter Try.func22, Try.ntmps22
    go_wp2_with fail
    (with_reducible refine (C.out _ (Gots.lift hg (by repeat (first | (with_reducible exact hg) | (with_reducible refine Gots.drew ?_) | (with_reducible refine Gots.drewN ?_ _) | (with_reducible refine Gots.alloc ?_ _) | (with_reducible refine Gots.below ?_ (by assumption)))))).mono ?_); rintro e w1 ⟨rfl, hb1⟩; have hz1 := hb1.size; (try simp at hz1); have F1 := (Blk.new _ _ _).below hb1 (by first | omega | (simp; done) | (simp; omega)); have F1l := F1.lt; have F1c0 := F1.cell 0; have F1f0 := F1.frozen 0; have F1c1 := F1.cell 1; have F1f1 := F1.frozen 1; have F1c2 := F1.cell 2; have F1f2 := F1.frozen 2; have F1c3 := F1.cell 3; have F1f3 := F1.frozen 3; have F1c4 := F1.cell 4; have F1f4 := F1.frozen 4; (try simp at F1c0 F1c1 F1c2 F1c3 F1c4)
    go_wp2
    all_goals first | (go_ret; exact ⟨rfl, (by repeat (first | (with_reducible exact b_refl _) | (with_reducible refine b_alloc ?_ _) | (with_reducible refine b_drew ?_) | (with_reducible refine b_drewN ?_ _) | (with_reducible refine b_set ?_ ?_ _) | (with_reducible refine b_trans ?_ (by assumption)) | (with_reducible refine b_only ?_ (by assumption) ?_) | omega | (focus (simp; done)) | (focus (simp; omega))))⟩) | (exfalso; omega) | (exfalso; simp_all; done) | (exfalso; simp_all; omega)
  have ht := recvOk_tr k
  rw [if_pos k]
  rw [k] at c
  have C := Lib.hid c
  clear c k hl
  by_cases z : rn = 0
  · subst z
    have q1 : ¬ rt ≤ 0 := by omega
    rw [if_pos rfl]
    go_enter Try.func22, Try.ntmps22
    go_wp2_with fail
    (with_reducible refine (C.out _ (Gots.lift hg (by repeat (first | (with_reducible exact hg) | (with_reducible refine Gots.drew ?_) | (with_reducible refine Gots.drewN ?_ _) | (with_reducible refine Gots.alloc ?_ _) | (with_reducible refine Gots.below ?_ (by assumption)))))).mono ?_); rintro e w1 ⟨rfl, hb1⟩; have hz1 := hb1.size; (try simp at hz1); have F1 := (Blk.new _ _ _).below hb1 (by first | omega | (simp; done) | (simp; omega)); have F1l := F1.lt; have F1c0 := F1.cell 0; have F1f0 := F1.frozen 0; have F1c1 := F1.cell 1; have F1f1 := F1.frozen 1; have F1c2 := F1.cell 2; have F1f2 := F1.frozen 2; have F1c3 := F1.cell 3; have F1f3 := F1.frozen 3; have F1c4 := F1.cell 4; have F1f4 := F1.frozen 4; (try simp at F1c0 F1c1 F1c2 F1c3 F1c4)
    go_wp2
    all_goals first | (go_ret; exact ⟨rfl, (by repeat (first | (with_reducible exact b_refl _) | (with_reducible refine b_alloc ?_ _) | (with_reducible refine b_drew ?_) | (with_reducible refine b_drewN ?_ _) | (with_reducible refine b_set ?_ ?_ _) | (with_reducible refine b_trans ?_ (by assumption)) | (with_reducible refine b_only ?_ (by assumption) ?_) | omega | (focus (simp; done)) | (focus (simp; omega))))⟩) | (exfalso; omega) | (exfalso; simp_all; done) | (exfalso; simp_all; omega)
  have z1 : (0 : Int) < rn := by omega
  have z2 : ¬ (rn : Int) = 0 := by omega
  have z3 : ((rn : Int) == 0) = false := by simpa using z2
  rw [if_neg z]
  by_cases q1 : rt ≤ (rn : Int)
  · rw [if_pos q1]
    go_enter Try.func22, Try.ntmps22
    go_wp2_with fail
    (with_reducible refine (C.out _ (Gots.lift hg (by repeat (first | (with_reducible exact hg) | (with_reducible refine Gots.drew ?_) | (with_reducible refine Gots.drewN ?_ _) | (with_reducible refine Gots.alloc ?_ _) | (with_reducible refine Gots.below ?_ (by assumption)))))).mono ?_); rintro e w1 ⟨rfl, hb1⟩; have hz1 := hb1.size; (try simp at hz1); have F1 := (Blk.new _ _ _).below hb1 (by first | omega | (simp; done) | (simp; omega)); have F1l := F1.lt; have F1c0 := F1.cell 0; have F1f0 := F1.frozen 0; have F1c1 := F1.cell 1; have F1f1 := F1.frozen 1; have F1c2 := F1.cell 2; have F1f2 := F1.frozen 2; have F1c3 := F1.cell 3; have F1f3 := F1.frozen 3; have F1c4 := F1.cell 4; have F1f4 := F1.frozen 4; (try simp at F1c0 F1c1 F1c2 F1c3 F1c4)
    go_wp2
    all_goals first | (go_ret; exact ⟨rfl, (by repeat (first | (with_reducible exact b_refl _) | (with_reducible refine b_alloc ?_ _) | (with_reducible refine b_drew ?_) | (with_reducible refine b_drewN ?_ _) | (with_reducible refine b_set ?_ ?_ _) | (with_reducible refine b_trans ?_ (by assumption)) | (with_reducible refine b_only ?_ (by assumption) ?_) | omega | (focus (simp; done)) | (focus (simp; omega))))⟩) | (exfalso; omega) | (exfalso; simp_all; done) | (exfalso; simp_all; omega)
  rw [if_neg q1]
  by_cases q2 : 4 ≤ ra
  · rw [if_pos q2]
    go_enter Try.func22, Try.ntmps22
    go_wp2_with fail
    (with_reducible refine (C.out _ (Gots.lift hg (by repeat (first | (with_reducible exact hg) | (with_reducible refine Gots.drew ?_) | (with_reducible refine Gots.drewN ?_ _) | (with_reducible refine Gots.alloc ?_ _) | (with_reducible refine Gots.below ?_ (by assumption)))))).mono ?_); rintro e w1 ⟨rfl, hb1⟩; have hz1 := hb1.size; (try simp at hz1); have F1 := (Blk.new _ _ _).below hb1 (by first | omega | (simp; done) | (simp; omega)); have F1l := F1.lt; have F1c0 := F1.cell 0; have F1f0 := F1.frozen 0; have F1c1 := F1.cell 1; have F1f1 := F1.frozen 1; have F1c2 := F1.cell 2; have F1f2 := F1.frozen 2; have F1c3 := F1.cell 3; have F1f3 := F1.frozen 3; have F1c4 := F1.cell 4; have F1f4 := F1.frozen 4; (try simp at F1c0 F1c1 F1c2 F1c3 F1c4)
    go_wp2
    all_goals first | (go_ret; exact ⟨rfl, (by repeat (first | (with_reducible exact b_refl _) | (with_reducible refine b_alloc ?_ _) | (with_reducible refine b_drew ?_) | (with_reducible refine b_drewN ?_ _) | (with_reducible refine b_set ?_ ?_ _) | (with_reducible refine b_trans ?_ (by assumption)) | (with_reducible refine b_only ?_ (by assumption) ?_) | omega | (focus (simp; done)) | (focus (simp; omega))))⟩) | (exfalso; omega) | (exfalso; simp_all; done) | (exfalso; simp_all; omega)
  · rw [if_neg q2]
    have q3 : ra < 4 := by omega
    go_enter Try.func22, Try.ntmps22
    go_wp2_with fail
    (with_reducible refine (C.out _ (Gots.lift hg (by repeat (first | (with_reducible exact hg) | (with_reducible refine Gots.drew ?_) | (with_reducible refine Gots.drewN ?_ _) | (with_reducible refine Gots.alloc ?_ _) | (with_reducible refine Gots.below ?_ (by assumption)))))).mono ?_); rintro e w1 ⟨rfl, hb1⟩; have hz1 := hb1.size; (try simp at hz1); have F1 := (Blk.new _ _ _).below hb1 (by first | omega | (simp; done) | (simp; omega)); have F1l := F1.lt; have F1c0 := F1.cell 0; have F1f0 := F1.frozen 0; have F1c1 := F1.cell 1; have F1f1 := F1.frozen 1; have F1c2 := F1.cell 2; have F1f2 := F1.frozen 2; have F1c3 := F1.cell 3; have F1f3 := F1.frozen 3; have F1c4 := F1.cell 4; have F1f4 := F1.frozen 4; (try simp at F1c0 F1c1 F1c2 F1c3 F1c4)
    go_wp2
    all_goals first | (go_ret; exact ⟨rfl, (by repeat (first | (with_reducible exact b_refl _) | (with_reducible refine b_alloc ?_ _) | (with_reducible refine b_drew ?_) | (with_reducible refine b_drewN ?_ _) | (with_reducible refine b_set ?_ ?_ _) | (with_reducible refine b_trans ?_ (by assumption)) | (with_reducible refine b_only ?_ (by assumption) ?_) | omega | (focus (simp; done)) | (focus (simp; omega))))⟩) | (exfalso; omega) | (exfalso; simp_all; done) | (exfalso; simp_all; omega)
set_option maxHeartbeats 2000000 in
theorem spec_RecvStatus (rr rt : Int) (RA : Option Addr) (rn rc : Nat) (rl : Bool) (ra : Int) (gs : List (Int × Int)) (w : World) (hg : Gots w RA rn gs) (hn : rn ≤ 1048576) :
    Calls Try.prog 52 #[.agg #[.int .i64 rr, .int .i64 rt, .slice RA rn rc, .bool rl, .int .i64 ra]] w fun e w' => e = .returned (.int .i64 (recvStatus rr rt gs rl ra)) ∧ Below w.heap.size w w' := by
  have hl := hg.len
  have c := fun w h => spec_RecvValid rr rt RA rn rc rl ra gs w h (by omega)
  rw [recvStatus, hl]
  by_cases k : recvOk rr rt gs ra = true
  case' neg =>
    have k2 : recvOk rr rt gs ra = false := by simpa using k
    rw [if_neg k]
    rw [k2] at c
    have C := Lib.hid c
    clear c k k2 hl
    go_enter Try.func52, Try.ntmps52
    go_wp2_with fail
    (with_reducible refine (C.out _ (Gots.lift hg (by repeat (first | (with_reducible exact hg) | (with_reducible refine Gots.drew ?_) | (with_reducible refine Gots.drewN ?_ _) | (with_reducible refine Gots.alloc ?_ _) | (with_reducible refine Gots.below ?_ (by assumption)))))).mono ?_); rintro e w1 ⟨rfl, hb1⟩; have hz1 := hb1.size; (try simp at hz1); have F1 := (Blk.new _ _ _).below hb1 (by first | omega | (simp; done) | (simp; omega)); have F1l := F1.lt; have F1c0 := F1.cell 0; have F1f0 := F1.frozen 0; have F1c1 := F1.cell 1; have F1f1 := F1.frozen 1; have F1c2 := F1.cell 2; have F1f2 := F1.frozen 2; have F1c3 := F1.cell 3; have F1f3 := F1.frozen 3; have F1c4 := F1.cell 4; have F1f4 := F1.frozen 4; (try simp at F1c0 F1c1 F1c2 F1c3 F1c4)
    go_wp2
    all_goals first | (go_ret; exact ⟨rfl, (by repeat (first | (with_reducible exact b_refl _) | (with_reducible refine b_alloc ?_ _) | (with_reducible refine b_drew ?_) | (with_reducible refine b_drewN ?_ _) | (with_reducible refine b_set ?_ ?_ _) | (with_reducible refine b_trans ?_ (by assumption)) | (with_reducible refine b_only ?_ (by assumption) ?_) | omega | (focus (simp; done)) | (focus (simp; omega))))⟩) | (exfalso; omega) | (exfalso; simp_all; done) | (exfalso; simp_all; omega)
  rw [if_pos k]
  rw [k] at c
  have C := Lib.hid c
  clear c k hl
  by_cases z : rn = 0
  · subst z
    cases rl
    · skip
      go_enter Try.func52, Try.ntmps52
      go_wp2_with fail
      (with_reducible refine (C.out _ (Gots.lift hg (by repeat (first | (with_reducible exact hg) | (with_reducible refine Gots.drew ?_) | (with_reducible refine Gots.drewN ?_ _) | (with_reducible refine Gots.alloc ?_ _) | (with_reducible refine Gots.below ?_ (by assumption)))))).mono ?_); rintro e w1 ⟨rfl, hb1⟩; have hz1 := hb1.size; (try simp at hz1); have F1 := (Blk.new _ _ _).below hb1 (by first | omega | (simp; done) | (simp; omega)); have F1l := F1.lt; have F1c0 := F1.cell 0; have F1f0 := F1.frozen 0; have F1c1 := F1.cell 1; have F1f1 := F1.frozen 1; have F1c2 := F1.cell 2; have F1f2 := F1.frozen 2; have F1c3 := F1.cell 3; have F1f3 := F1.frozen 3; have F1c4 := F1.cell 4; have F1f4 := F1.frozen 4; (try simp at F1c0 F1c1 F1c2 F1c3 F1c4)
      go_wp2
      all_goals first | (go_ret; exact ⟨rfl, (by repeat (first | (with_reducible exact b_refl _) | (with_reducible refine b_alloc ?_ _) | (with_reducible refine b_drew ?_) | (with_reducible refine b_drewN ?_ _) | (with_reducible refine b_set ?_ ?_ _) | (with_reducible refine b_trans ?_ (by assumption)) | (with_reducible refine b_only ?_ (by assumption) ?_) | omega | (focus (simp; done)) | (focus (simp; omega))))⟩) | (exfalso; omega) | (exfalso; simp_all; done) | (exfalso; simp_all; omega)
    · skip
      go_enter Try.func52, Try.ntmps52
      go_wp2_with fail
      (with_reducible refine (C.out _ (Gots.lift hg (by repeat (first | (with_reducible exact hg) | (with_reducible refine Gots.drew ?_) | (with_reducible refine Gots.drewN ?_ _) | (with_reducible refine Gots.alloc ?_ _) | (with_reducible refine Gots.below ?_ (by assumption)))))).mono ?_); rintro e w1 ⟨rfl, hb1⟩; have hz1 := hb1.size; (try simp at hz1); have F1 := (Blk.new _ _ _).below hb1 (by first | omega | (simp; done) | (simp; omega)); have F1l := F1.lt; have F1c0 := F1.cell 0; have F1f0 := F1.frozen 0; have F1c1 := F1.cell 1; have F1f1 := F1.frozen 1; have F1c2 := F1.cell 2; have F1f2 := F1.frozen 2; have F1c3 := F1.cell 3; have F1f3 := F1.frozen 3; have F1c4 := F1.cell 4; have F1f4 := F1.frozen 4; (try simp at F1c0 F1c1 F1c2 F1c3 F1c4)
      go_wp2
      all_goals first | (go_ret; exact ⟨rfl, (by repeat (first | (with_reducible exact b_refl _) | (with_reducible refine b_alloc ?_ _) | (with_reducible refine b_drew ?_) | (with_reducible refine b_drewN ?_ _) | (with_reducible refine b_set ?_ ?_ _) | (with_reducible refine b_trans ?_ (by assumption)) | (with_reducible refine b_only ?_ (by assumption) ?_) | omega | (focus (simp; done)) | (focus (simp; omega))))⟩) | (exfalso; omega) | (exfalso; simp_all; done) | (exfalso; simp_all; omega)
  have z1 : (0 : Int) < rn := by omega
  have z2 : ¬ (rn : Int) = 0 := by omega
  have z3 : ((rn : Int) == 0) = false := by simpa using z2
  rw [if_neg z]
  obtain ⟨b, o, x, y, rfl, hb, ex, hc0, hc1⟩ := hg.at_ (k := 0) (by omega)
  have hh : gs.headD (0, 0) = (x, y) := by cases gs <;> simp_all
  rw [hh]
  simp only [Nat.zero_mul, Nat.add_zero] at hc0 hc1
  have hc1' : w.cell? ⟨b, o + 1, none⟩ = some (.int .i64 y) := hc1
  unfold codeBits
  clear ex hh hc0 hc1
  by_cases y1 : y = 1
  · subst y1
    cases rl
    · skip
      go_enter Try.func52, Try.ntmps52
      go_wp2_with fail
      (with_reducible refine (C.out _ (Gots.lift hg (by repeat (first | (with_reducible exact hg) | (with_reducible refine Gots.drew ?_) | (with_reducible refine Gots.drewN ?_ _) | (with_reducible refine Gots.alloc ?_ _) | (with_reducible refine Gots.below ?_ (by assumption)))))).mono ?_); rintro e w1 ⟨rfl, hb1⟩; have hz1 := hb1.size; (try simp at hz1); have F1 := (Blk.new _ _ _).below hb1 (by first | omega | (simp; done) | (simp; omega)); have F1l := F1.lt; have F1c0 := F1.cell 0; have F1f0 := F1.frozen 0; have F1c1 := F1.cell 1; have F1f1 := F1.frozen 1; have F1c2 := F1.cell 2; have F1f2 := F1.frozen 2; have F1c3 := F1.cell 3; have F1f3 := F1.frozen 3; have F1c4 := F1.cell 4; have F1f4 := F1.frozen 4; (try simp at F1c0 F1c1 F1c2 F1c3 F1c4); have d1 := (hb1.cell (p := ⟨b, o + 1, none⟩) (by simp; omega)).trans ((World.cell?_alloc_lt _ _ _ (by simpa using hb)).trans hc1')
      go_wp2
      all_goals first | (go_ret; exact ⟨rfl, (by repeat (first | (with_reducible exact b_refl _) | (with_reducible refine b_alloc ?_ _) | (with_reducible refine b_drew ?_) | (with_reducible refine b_drewN ?_ _) | (with_reducible refine b_set ?_ ?_ _) | (with_reducible refine b_trans ?_ (by assumption)) | (with_reducible refine b_only ?_ (by assumption) ?_) | omega | (focus (simp; done)) | (focus (simp; omega))))⟩) | (exfalso; omega) | (exfalso; simp_all; done) | (exfalso; simp_all; omega)
    · skip
      go_enter Try.func52, Try.ntmps52
      go_wp2_with fail
      (with_reducible refine (C.out _ (Gots.lift hg (by repeat (first | (with_reducible exact hg) | (with_reducible refine Gots.drew ?_) | (with_reducible refine Gots.drewN ?_ _) | (with_reducible refine Gots.alloc ?_ _) | (with_reducible refine Gots.below ?_ (by assumption)))))).mono ?_); rintro e w1 ⟨rfl, hb1⟩; have hz1 := hb1.size; (try simp at hz1); have F1 := (Blk.new _ _ _).below hb1 (by first | omega | (simp; done) | (simp; omega)); have F1l := F1.lt; have F1c0 := F1.cell 0; have F1f0 := F1.frozen 0; have F1c1 := F1.cell 1; have F1f1 := F1.frozen 1; have F1c2 := F1.cell 2; have F1f2 := F1.frozen 2; have F1c3 := F1.cell 3; have F1f3 := F1.frozen 3; have F1c4 := F1.cell 4; have F1f4 := F1.frozen 4; (try simp at F1c0 F1c1 F1c2 F1c3 F1c4); have d1 := (hb1.cell (p := ⟨b, o + 1, none⟩) (by simp; omega)).trans ((World.cell?_alloc_lt _ _ _ (by simpa using hb)).trans hc1')
      go_wp2
      all_goals first | (go_ret; exact ⟨rfl, (by repeat (first | (with_reducible exact b_refl _) | (with_reducible refine b_alloc ?_ _) | (with_reducible refine b_drew ?_) | (with_reducible refine b_drewN ?_ _) | (with_reducible refine b_set ?_ ?_ _) | (with_reducible refine b_trans ?_ (by assumption)) | (with_reducible refine b_only ?_ (by assumption) ?_) | omega | (focus (simp; done)) | (focus (simp; omega))))⟩) | (exfalso; omega) | (exfalso; simp_all; done) | (exfalso; simp_all; omega)
  have w1 : (y == 1) = false := by simpa using y1
  rw [if_neg y1]
  by_cases y2 : y = 2
  · subst y2
    cases rl
    · skip
      go_enter Try.func52, Try.ntmps52
      go_wp2_with fail
      (with_reducible refine (C.out _ (Gots.lift hg (by repeat (first | (with_reducible exact hg) | (with_reducible refine Gots.drew ?_) | (with_reducible refine Gots.drewN ?_ _) | (with_reducible refine Gots.alloc ?_ _) | (with_reducible refine Gots.below ?_ (by assumption)))))).mono ?_); rintro e w1 ⟨rfl, hb1⟩; have hz1 := hb1.size; (try simp at hz1); have F1 := (Blk.new _ _ _).below hb1 (by first | omega | (simp; done) | (simp; omega)); have F1l := F1.lt; have F1c0 := F1.cell 0; have F1f0 := F1.frozen 0; have F1c1 := F1.cell 1; have F1f1 := F1.frozen 1; have F1c2 := F1.cell 2; have F1f2 := F1.frozen 2; have F1c3 := F1.cell 3; have F1f3 := F1.frozen 3; have F1c4 := F1.cell 4; have F1f4 := F1.frozen 4; (try simp at F1c0 F1c1 F1c2 F1c3 F1c4); have d1 := (hb1.cell (p := ⟨b, o + 1, none⟩) (by simp; omega)).trans ((World.cell?_alloc_lt _ _ _ (by simpa using hb)).trans hc1')
      go_wp2
      all_goals first | (go_ret; exact ⟨rfl, (by repeat (first | (with_reducible exact b_refl _) | (with_reducible refine b_alloc ?_ _) | (with_reducible refine b_drew ?_) | (with_reducible refine b_drewN ?_ _) | (with_reducible refine b_set ?_ ?_ _) | (with_reducible refine b_trans ?_ (by assumption)) | (with_reducible refine b_only ?_ (by assumption) ?_) | omega | (focus (simp; done)) | (focus (simp; omega))))⟩) | (exfalso; omega) | (exfalso; simp_all; done) | (exfalso; simp_all; omega)
    · skip
      go_enter Try.func52, Try.ntmps52
      go_wp2_with fail
      (with_reducible refine (C.out _ (Gots.lift hg (by repeat (first | (with_reducible exact hg) | (with_reducible refine Gots.drew ?_) | (with_reducible refine Gots.drewN ?_ _) | (with_reducible refine Gots.alloc ?_ _) | (with_reducible refine Gots.below ?_ (by assumption)))))).mono ?_); rintro e w1 ⟨rfl, hb1⟩; have hz1 := hb1.size; (try simp at hz1); have F1 := (Blk.new _ _ _).below hb1 (by first | omega | (simp; done) | (simp; omega)); have F1l := F1.lt; have F1c0 := F1.cell 0; have F1f0 := F1.frozen 0; have F1c1 := F1.cell 1; have F1f1 := F1.frozen 1; have F1c2 := F1.cell 2; have F1f2 := F1.frozen 2; have F1c3 := F1.cell 3; have F1f3 := F1.frozen 3; have F1c4 := F1.cell 4; have F1f4 := F1.frozen 4; (try simp at F1c0 F1c1 F1c2 F1c3 F1c4); have d1 := (hb1.cell (p := ⟨b, o + 1, none⟩) (by simp; omega)).trans ((World.cell?_alloc_lt _ _ _ (by simpa using hb)).trans hc1')
      go_wp2
      all_goals first | (go_ret; exact ⟨rfl, (by repeat (first | (with_reducible exact b_refl _) | (with_reducible refine b_alloc ?_ _) | (with_reducible refine b_drew ?_) | (with_reducible refine b_drewN ?_ _) | (with_reducible refine b_set ?_ ?_ _) | (with_reducible refine b_trans ?_ (by assumption)) | (with_reducible refine b_only ?_ (by assumption) ?_) | omega | (focus (simp; done)) | (focus (simp; omega))))⟩) | (exfalso; omega) | (exfalso; simp_all; done) | (exfalso; simp_all; omega)
  have w2 : (y == 2) = false := by simpa using y2
  rw [if_neg y2]
  clear y1 y2
  cases rl
  · skip
    go_enter Try.func52, Try.ntmps52
    go_wp2_with fail
    (with_reducible refine (C.out _ (Gots.lift hg (by repeat (first | (with_reducible exact hg) | (with_reducible refine Gots.drew ?_) | (with_reducible refine Gots.drewN ?_ _) | (with_reducible refine Gots.alloc ?_ _) | (with_reducible refine Gots.below ?_ (by assumption)))))).mono ?_); rintro e w1 ⟨rfl, hb1⟩; have hz1 := hb1.size; (try simp at hz1); have F1 := (Blk.new _ _ _).below hb1 (by first | omega | (simp; done) | (simp; omega)); have F1l := F1.lt; have F1c0 := F1.cell 0; have F1f0 := F1.frozen 0; have F1c1 := F1.cell 1; have F1f1 := F1.frozen 1; have F1c2 := F1.cell 2; have F1f2 := F1.frozen 2; have F1c3 := F1.cell 3; have F1f3 := F1.frozen 3; have F1c4 := F1.cell 4; have F1f4 := F1.frozen 4; (try simp at F1c0 F1c1 F1c2 F1c3 F1c4); have d1 := (hb1.cell (p := ⟨b, o + 1, none⟩) (by simp; omega)).trans ((World.cell?_alloc_lt _ _ _ (by simpa using hb)).trans hc1')
    go_wp2
    all_goals first | (go_ret; exact ⟨rfl, (by repeat (first | (with_reducible exact b_refl _) | (with_reducible refine b_alloc ?_ _) | (with_reducible refine b_drew ?_) | (with_reducible refine b_drewN ?_ _) | (with_reducible refine b_set ?_ ?_ _) | (with_reducible refine b_trans ?_ (by assumption)) | (with_reducible refine b_only ?_ (by assumption) ?_) | omega | (focus (simp; done)) | (focus (simp; omega))))⟩) | (exfalso; omega) | (exfalso; simp_all; done) | (exfalso; simp_all; omega)
  · skip
    go_enter Try.func52, Try.ntmps52
    go_wp2_with fail
    (with_reducible refine (C.out _ (Gots.lift hg (by repeat (first | (with_reducible exact hg) | (with_reducible refine Gots.drew ?_) | (with_reducible refine Gots.drewN ?_ _) | (with_reducible refine Gots.alloc ?_ _) | (with_reducible refine Gots.below ?_ (by assumption)))))).mono ?_); rintro e w1 ⟨rfl, hb1⟩; have hz1 := hb1.size; (try simp at hz1); have F1 := (Blk.new _ _ _).below hb1 (by first | omega | (simp; done) | (simp; omega)); have F1l := F1.lt; have F1c0 := F1.cell 0; have F1f0 := F1.frozen 0; have F1c1 := F1.cell 1; have F1f1 := F1.frozen 1; have F1c2 := F1.cell 2; have F1f2 := F1.frozen 2; have F1c3 := F1.cell 3; have F1f3 := F1.frozen 3; have F1c4 := F1.cell 4; have F1f4 := F1.frozen 4; (try simp at F1c0 F1c1 F1c2 F1c3 F1c4); have d1 := (hb1.cell (p := ⟨b, o + 1, none⟩) (by simp; omega)).trans ((World.cell?_alloc_lt _ _ _ (by simpa using hb)).trans hc1')
    go_wp2
    all_goals first | (go_ret; exact ⟨rfl, (by repeat (first | (with_reducible exact b_refl _) | (with_reducible refine b_alloc ?_ _) | (with_reducible refine b_drew ?_) | (with_reducible refine b_drewN ?_ _) | (with_reducible refine b_set ?_ ?_ _) | (with_reducible refine b_trans ?_ (by assumption)) | (with_reducible refine b_only ?_ (by assumption) ?_) | omega | (focus (simp; done)) | (focus (simp; omega))))⟩) | (exfalso; omega) | (exfalso; simp_all; done) | (exfalso; simp_all; omega)
set_option maxHeartbeats 2000000 in
theorem impl_RecvReady (rr rt : Int) (RA : Option Addr) (rn rc : Nat) (rl : Bool) (ra : Int) (gs : List (Int × Int)) (w : World) (hg : Gots w RA rn gs) (hn : rn ≤ 1048576) :
    Calls Try.prog 60 #[.agg #[.int .i64 rr, .int .i64 rt, .slice RA rn rc, .bool rl, .int .i64 ra]] w fun e w' => e = .returned (.int .i64 (recvReady rr rt gs ra)) ∧ Below w.heap.size w w' := by
  have hl := hg.len
  have c := fun w h => impl_RecvValid rr rt RA rn rc rl ra gs w h (by omega)
  rw [recvReady, hl]
  by_cases k : recvOk rr rt gs ra = true
  case' neg =>
    have k2 : recvOk rr rt gs ra = false := by simpa using k
    rw [if_neg k]
    rw [k2] at c
    have C := Lib.hid c
    clear c k k2 hl
    go_enter Try.func60, Try.ntmps60
    go_wp2_with fail
    (with_reducible refine (C.out _ (Gots.lift hg (by repeat (first | (with_reducible exact hg) | (with_reducible refine Gots.drew ?_) | (with_reducible refine Gots.drewN ?_ _) | (with_reducible refine Gots.alloc ?_ _) | (with_reducible refine Gots.below ?_ (by assumption)))))).mono ?_); rintro e w1 ⟨rfl, hb1⟩; have hz1 := hb1.size; (try simp at hz1); have F1 := (Blk.new _ _ _).below hb1 (by first | omega | (simp; done) | (simp; omega)); have F1l := F1.lt; have F1c0 := F1.cell 0; have F1f0 := F1.frozen 0; have F1c1 := F1.cell 1; have F1f1 := F1.frozen 1; have F1c2 := F1.cell 2; have F1f2 := F1.frozen 2; have F1c3 := F1.cell 3; have F1f3 := F1.frozen 3; have F1c4 := F1.cell 4; have F1f4 := F1.frozen 4; (try simp at F1c0 F1c1 F1c2 F1c3 F1c4)
    go_wp2
    all_goals first | (go_ret; exact ⟨rfl, (by repeat (first | (with_reducible exact b_refl _) | (with_reducible refine b_alloc ?_ _) | (with_reducible refine b_drew ?_) | (with_reducible refine b_drewN ?_ _) | (with_reducible refine b_set ?_ ?_ _) | (with_reducible refine b_trans ?_ (by assumption)) | (with_reducible refine b_only ?_ (by assumption) ?_) | omega | (focus (simp; done)) | (focus (simp; omega))))⟩) | (exfalso; omega) | (exfalso; simp_all; done) | (exfalso; simp_all; omega)
  have ht := recvOk_tr k
  rw [if_pos k]
  rw [k] at c
  have C := Lib.hid c
  clear c k hl
  by_cases z : rn = 0
  · subst z
    have q1 : ¬ rt ≤ 0 := by omega
    rw [if_pos rfl]
    go_enter Try.func60, Try.ntmps60
    go_wp2_with fail
    (with_reducible refine (C.out _ (Gots.lift hg (by repeat (first | (with_reducible exact hg) | (with_reducible refine Gots.drew ?_) | (with_reducible refine Gots.drewN ?_ _) | (with_reducible refine Gots.alloc ?_ _) | (with_reducible refine Gots.below ?_ (by assumption)))))).mono ?_); rintro e w1 ⟨rfl, hb1⟩; have hz1 := hb1.size; (try simp at hz1); have F1 := (Blk.new _ _ _).below hb1 (by first | omega | (simp; done) | (simp; omega)); have F1l := F1.lt; have F1c0 := F1.cell 0; have F1f0 := F1.frozen 0; have F1c1 := F1.cell 1; have F1f1 := F1.frozen 1; have F1c2 := F1.cell 2; have F1f2 := F1.frozen 2; have F1c3 := F1.cell 3; have F1f3 := F1.frozen 3; have F1c4 := F1.cell 4; have F1f4 := F1.frozen 4; (try simp at F1c0 F1c1 F1c2 F1c3 F1c4)
    go_wp2
    all_goals first | (go_ret; exact ⟨rfl, (by repeat (first | (with_reducible exact b_refl _) | (with_reducible refine b_alloc ?_ _) | (with_reducible refine b_drew ?_) | (with_reducible refine b_drewN ?_ _) | (with_reducible refine b_set ?_ ?_ _) | (with_reducible refine b_trans ?_ (by assumption)) | (with_reducible refine b_only ?_ (by assumption) ?_) | omega | (focus (simp; done)) | (focus (simp; omega))))⟩) | (exfalso; omega) | (exfalso; simp_all; done) | (exfalso; simp_all; omega)
  have z1 : (0 : Int) < rn := by omega
  have z2 : ¬ (rn : Int) = 0 := by omega
  have z3 : ((rn : Int) == 0) = false := by simpa using z2
  rw [if_neg z]
  by_cases q1 : rt ≤ (rn : Int)
  · rw [if_pos q1]
    go_enter Try.func60, Try.ntmps60
    go_wp2_with fail
    (with_reducible refine (C.out _ (Gots.lift hg (by repeat (first | (with_reducible exact hg) | (with_reducible refine Gots.drew ?_) | (with_reducible refine Gots.drewN ?_ _) | (with_reducible refine Gots.alloc ?_ _) | (with_reducible refine Gots.below ?_ (by assumption)))))).mono ?_); rintro e w1 ⟨rfl, hb1⟩; have hz1 := hb1.size; (try simp at hz1); have F1 := (Blk.new _ _ _).below hb1 (by first | omega | (simp; done) | (simp; omega)); have F1l := F1.lt; have F1c0 := F1.cell 0; have F1f0 := F1.frozen 0; have F1c1 := F1.cell 1; have F1f1 := F1.frozen 1; have F1c2 := F1.cell 2; have F1f2 := F1.frozen 2; have F1c3 := F1.cell 3; have F1f3 := F1.frozen 3; have F1c4 := F1.cell 4; have F1f4 := F1.frozen 4; (try simp at F1c0 F1c1 F1c2 F1c3 F1c4)
    go_wp2
    all_goals first | (go_ret; exact ⟨rfl, (by repeat (first | (with_reducible exact b_refl _) | (with_reducible refine b_alloc ?_ _) | (with_reducible refine b_drew ?_) | (with_reducible refine b_drewN ?_ _) | (with_reducible refine b_set ?_ ?_ _) | (with_reducible refine b_trans ?_ (by assumption)) | (with_reducible refine b_only ?_ (by assumption) ?_) | omega | (focus (simp; done)) | (focus (simp; omega))))⟩) | (exfalso; omega) | (exfalso; simp_all; done) | (exfalso; simp_all; omega)
  rw [if_neg q1]
  by_cases q2 : 4 ≤ ra
  · rw [if_pos q2]
    go_enter Try.func60, Try.ntmps60
    go_wp2_with fail
    (with_reducible refine (C.out _ (Gots.lift hg (by repeat (first | (with_reducible exact hg) | (with_reducible refine Gots.drew ?_) | (with_reducible refine Gots.drewN ?_ _) | (with_reducible refine Gots.alloc ?_ _) | (with_reducible refine Gots.below ?_ (by assumption)))))).mono ?_); rintro e w1 ⟨rfl, hb1⟩; have hz1 := hb1.size; (try simp at hz1); have F1 := (Blk.new _ _ _).below hb1 (by first | omega | (simp; done) | (simp; omega)); have F1l := F1.lt; have F1c0 := F1.cell 0; have F1f0 := F1.frozen 0; have F1c1 := F1.cell 1; have F1f1 := F1.frozen 1; have F1c2 := F1.cell 2; have F1f2 := F1.frozen 2; have F1c3 := F1.cell 3; have F1f3 := F1.frozen 3; have F1c4 := F1.cell 4; have F1f4 := F1.frozen 4; (try simp at F1c0 F1c1 F1c2 F1c3 F1c4)
    go_wp2
    all_goals first | (go_ret; exact ⟨rfl, (by repeat (first | (with_reducible exact b_refl _) | (with_reducible refine b_alloc ?_ _) | (with_reducible refine b_drew ?_) | (with_reducible refine b_drewN ?_ _) | (with_reducible refine b_set ?_ ?_ _) | (with_reducible refine b_trans ?_ (by assumption)) | (with_reducible refine b_only ?_ (by assumption) ?_) | omega | (focus (simp; done)) | (focus (simp; omega))))⟩) | (exfalso; omega) | (exfalso; simp_all; done) | (exfalso; simp_all; omega)
  · rw [if_neg q2]
    have q3 : ra < 4 := by omega
    go_enter Try.func60, Try.ntmps60
    go_wp2_with fail
    (with_reducible refine (C.out _ (Gots.lift hg (by repeat (first | (with_reducible exact hg) | (with_reducible refine Gots.drew ?_) | (with_reducible refine Gots.drewN ?_ _) | (with_reducible refine Gots.alloc ?_ _) | (with_reducible refine Gots.below ?_ (by assumption)))))).mono ?_); rintro e w1 ⟨rfl, hb1⟩; have hz1 := hb1.size; (try simp at hz1); have F1 := (Blk.new _ _ _).below hb1 (by first | omega | (simp; done) | (simp; omega)); have F1l := F1.lt; have F1c0 := F1.cell 0; have F1f0 := F1.frozen 0; have F1c1 := F1.cell 1; have F1f1 := F1.frozen 1; have F1c2 := F1.cell 2; have F1f2 := F1.frozen 2; have F1c3 := F1.cell 3; have F1f3 := F1.frozen 3; have F1c4 := F1.cell 4; have F1f4 := F1.frozen 4; (try simp at F1c0 F1c1 F1c2 F1c3 F1c4)
    go_wp2
    all_goals first | (go_ret; exact ⟨rfl, (by repeat (first | (with_reducible exact b_refl _) | (with_reducible refine b_alloc ?_ _) | (with_reducible refine b_drew ?_) | (with_reducible refine b_drewN ?_ _) | (with_reducible refine b_set ?_ ?_ _) | (with_reducible refine b_trans ?_ (by assumption)) | (with_reducible refine b_only ?_ (by assumption) ?_) | omega | (focus (simp; done)) | (focus (simp; omega))))⟩) | (exfalso; omega) | (exfalso; simp_all; done) | (exfalso; simp_all; omega)
set_option maxHeartbeats 2000000 in
theorem impl_RecvStatus (rr rt : Int) (RA : Option Addr) (rn rc : Nat) (rl : Bool) (ra : Int) (gs : List (Int × Int)) (w : World) (hg : Gots w RA rn gs) (hn : rn ≤ 1048576) :
    Calls Try.prog 58 #[.agg #[.int .i64 rr, .int .i64 rt, .slice RA rn rc, .bool rl, .int .i64 ra]] w fun e w' => e = .returned (.int .i64 (recvStatus rr rt gs rl ra)) ∧ Below w.heap.size w w' := by
  have hl := hg.len
  have c := fun w h => impl_RecvValid rr rt RA rn rc rl ra gs w h (by omega)
  rw [recvStatus, hl]
  by_cases k : recvOk rr rt gs ra = true
  case' neg =>
    have k2 : recvOk rr rt gs ra = false := by simpa using k
    rw [if_neg k]
    rw [k2] at c
    have C := Lib.hid c
    clear c k k2 hl
    go_enter Try.func58, Try.ntmps58
    go_wp2_with fail
    (with_reducible refine (C.out _ (Gots.lift hg (by repeat (first | (with_reducible exact hg) | (with_reducible refine Gots.drew ?_) | (with_reducible refine Gots.drewN ?_ _) | (with_reducible refine Gots.alloc ?_ _) | (with_reducible refine Gots.below ?_ (by assumption)))))).mono ?_); rintro e w1 ⟨rfl, hb1⟩; have hz1 := hb1.size; (try simp at hz1); have F1 := (Blk.new _ _ _).below hb1 (by first | omega | (simp; done) | (simp; omega)); have F1l := F1.lt; have F1c0 := F1.cell 0; have F1f0 := F1.frozen 0; have F1c1 := F1.cell 1; have F1f1 := F1.frozen 1; have F1c2 := F1.cell 2; have F1f2 := F1.frozen 2; have F1c3 := F1.cell 3; have F1f3 := F1.frozen 3; have F1c4 := F1.cell 4; have F1f4 := F1.frozen 4; (try simp at F1c0 F1c1 F1c2 F1c3 F1c4)
    go_wp2
    all_goals first | (go_ret; exact ⟨rfl, (by repeat (first | (with_reducible exact b_refl _) | (with_reducible refine b_alloc ?_ _) | (with_reducible refine b_drew ?_) | (with_reducible refine b_drewN ?_ _) | (with_reducible refine b_set ?_ ?_ _) | (with_reducible refine b_trans ?_ (by assumption)) | (with_reducible refine b_only ?_ (by assumption) ?_) | omega | (focus (simp; done)) | (focus (simp; omega))))⟩) | (exfalso; omega) | (exfalso; simp_all; done) | (exfalso; simp_all; omega)
  rw [if_pos k]
  rw [k] at c
  have C := Lib.hid c
  clear c k hl
  by_cases z : rn = 0
  · subst z
    cases rl
    · skip
      go_enter Try.func58, Try.ntmps58
      go_wp2_with fail
      (with_reducible refine (C.out _ (Gots.lift hg (by repeat (first | (with_reducible exact hg) | (with_reducible refine Gots.drew ?_) | (with_reducible refine Gots.drewN ?_ _) | (with_reducible refine Gots.alloc ?_ _) | (with_reducible refine Gots.below ?_ (by assumption)))))).mono ?_); rintro e w1 ⟨rfl, hb1⟩; have hz1 := hb1.size; (try simp at hz1); have F1 := (Blk.new _ _ _).below hb1 (by first | omega | (simp; done) | (simp; omega)); have F1l := F1.lt; have F1c0 := F1.cell 0; have F1f0 := F1.frozen 0; have F1c1 := F1.cell 1; have F1f1 := F1.frozen 1; have F1c2 := F1.cell 2; have F1f2 := F1.frozen 2; have F1c3 := F1.cell 3; have F1f3 := F1.frozen 3; have F1c4 := F1.cell 4; have F1f4 := F1.frozen 4; (try simp at F1c0 F1c1 F1c2 F1c3 F1c4)
      go_wp2
      all_goals first | (go_ret; exact ⟨rfl, (by repeat (first | (with_reducible exact b_refl _) | (with_reducible refine b_alloc ?_ _) | (with_reducible refine b_drew ?_) | (with_reducible refine b_drewN ?_ _) | (with_reducible refine b_set ?_ ?_ _) | (with_reducible refine b_trans ?_ (by assumption)) | (with_reducible refine b_only ?_ (by assumption) ?_) | omega | (focus (simp; done)) | (focus (simp; omega))))⟩) | (exfalso; omega) | (exfalso; simp_all; done) | (exfalso; simp_all; omega)
    · skip
      go_enter Try.func58, Try.ntmps58
      go_wp2_with fail
      (with_reducible refine (C.out _ (Gots.lift hg (by repeat (first | (with_reducible exact hg) | (with_reducible refine Gots.drew ?_) | (with_reducible refine Gots.drewN ?_ _) | (with_reducible refine Gots.alloc ?_ _) | (with_reducible refine Gots.below ?_ (by assumption)))))).mono ?_); rintro e w1 ⟨rfl, hb1⟩; have hz1 := hb1.size; (try simp at hz1); have F1 := (Blk.new _ _ _).below hb1 (by first | omega | (simp; done) | (simp; omega)); have F1l := F1.lt; have F1c0 := F1.cell 0; have F1f0 := F1.frozen 0; have F1c1 := F1.cell 1; have F1f1 := F1.frozen 1; have F1c2 := F1.cell 2; have F1f2 := F1.frozen 2; have F1c3 := F1.cell 3; have F1f3 := F1.frozen 3; have F1c4 := F1.cell 4; have F1f4 := F1.frozen 4; (try simp at F1c0 F1c1 F1c2 F1c3 F1c4)
      go_wp2
      all_goals first | (go_ret; exact ⟨rfl, (by repeat (first | (with_reducible exact b_refl _) | (with_reducible refine b_alloc ?_ _) | (with_reducible refine b_drew ?_) | (with_reducible refine b_drewN ?_ _) | (with_reducible refine b_set ?_ ?_ _) | (with_reducible refine b_trans ?_ (by assumption)) | (with_reducible refine b_only ?_ (by assumption) ?_) | omega | (focus (simp; done)) | (focus (simp; omega))))⟩) | (exfalso; omega) | (exfalso; simp_all; done) | (exfalso; simp_all; omega)
  have z1 : (0 : Int) < rn := by omega
  have z2 : ¬ (rn : Int) = 0 := by omega
  have z3 : ((rn : Int) == 0) = false := by simpa using z2
  rw [if_neg z]
  obtain ⟨b, o, x, y, rfl, hb, ex, hc0, hc1⟩ := hg.at_ (k := 0) (by omega)
  have hh : gs.headD (0, 0) = (x, y) := by cases gs <;> simp_all
  rw [hh]
  simp only [Nat.zero_mul, Nat.add_zero] at hc0 hc1
  have hc1' : w.cell? ⟨b, o + 1, none⟩ = some (.int .i64 y) := hc1
  unfold codeBits
  clear ex hh hc0 hc1
  by_cases y1 : y = 1
  · subst y1
    cases rl
    · skip
      go_enter Try.func58, Try.ntmps58
      go_wp2_with fail
      (with_reducible refine (C.out _ (Gots.lift hg (by repeat (first | (with_reducible exact hg) | (with_reducible refine Gots.drew ?_) | (with_reducible refine Gots.drewN ?_ _) | (with_reducible refine Gots.alloc ?_ _) | (with_reducible refine Gots.below ?_ (by assumption)))))).mono ?_); rintro e w1 ⟨rfl, hb1⟩; have hz1 := hb1.size; (try simp at hz1); have F1 := (Blk.new _ _ _).below hb1 (by first | omega | (simp; done) | (simp; omega)); have F1l := F1.lt; have F1c0 := F1.cell 0; have F1f0 := F1.frozen 0; have F1c1 := F1.cell 1; have F1f1 := F1.frozen 1; have F1c2 := F1.cell 2; have F1f2 := F1.frozen 2; have F1c3 := F1.cell 3; have F1f3 := F1.frozen 3; have F1c4 := F1.cell 4; have F1f4 := F1.frozen 4; (try simp at F1c0 F1c1 F1c2 F1c3 F1c4); have d1 := (hb1.cell (p := ⟨b, o + 1, none⟩) (by simp; omega)).trans ((World.cell?_alloc_lt _ _ _ (by simpa using hb)).trans hc1')
      go_wp2
      all_goals first | (go_ret; exact ⟨rfl, (by repeat (first | (with_reducible exact b_refl _) | (with_reducible refine b_alloc ?_ _) | (with_reducible refine b_drew ?_) | (with_reducible refine b_drewN ?_ _) | (with_reducible refine b_set ?_ ?_ _) | (with_reducible refine b_trans ?_ (by assumption)) | (with_reducible refine b_only ?_ (by assumption) ?_) | omega | (focus (simp; done)) | (focus (simp; omega))))⟩) | (exfalso; omega) | (exfalso; simp_all; done) | (exfalso; simp_all; omega)
    · skip
      go_enter Try.func58, Try.ntmps58
      go_wp2_with fail
      (with_reducible refine (C.out _ (Gots.lift hg (by repeat (first | (with_reducible exact hg) | (with_reducible refine Gots.drew ?_) | (with_reducible refine Gots.drewN ?_ _) | (with_reducible refine Gots.alloc ?_ _) | (with_reducible refine Gots.below ?_ (by assumption)))))).mono ?_); rintro e w1 ⟨rfl, hb1⟩; have hz1 := hb1.size; (try simp at hz1); have F1 := (Blk.new _ _ _).below hb1 (by first | omega | (simp; done) | (simp; omega)); have F1l := F1.lt; have F1c0 := F1.cell 0; have F1f0 := F1.frozen 0; have F1c1 := F1.cell 1; have F1f1 := F1.frozen 1; have F1c2 := F1.cell 2; have F1f2 := F1.frozen 2; have F1c3 := F1.cell 3; have F1f3 := F1.frozen 3; have F1c4 := F1.cell 4; have F1f4 := F1.frozen 4; (try simp at F1c0 F1c1 F1c2 F1c3 F1c4); have d1 := (hb1.cell (p := ⟨b, o + 1, none⟩) (by simp; omega)).trans ((World.cell?_alloc_lt _ _ _ (by simpa using hb)).trans hc1')
      go_wp2
      all_goals first | (go_ret; exact ⟨rfl, (by repeat (first | (with_reducible exact b_refl _) | (with_reducible refine b_alloc ?_ _) | (with_reducible refine b_drew ?_) | (with_reducible refine b_drewN ?_ _) | (with_reducible refine b_set ?_ ?_ _) | (with_reducible refine b_trans ?_ (by assumption)) | (with_reducible refine b_only ?_ (by assumption) ?_) | omega | (focus (simp; done)) | (focus (simp; omega))))⟩) | (exfalso; omega) | (exfalso; simp_all; done) | (exfalso; simp_all; omega)
  have w1 : (y == 1) = false := by simpa using y1
  rw [if_neg y1]
  by_cases y2 : y = 2
  · subst y2
    cases rl
    · skip
      go_enter Try.func58, Try.ntmps58
      go_wp2_with fail
      (with_reducible refine (C.out _ (Gots.lift hg (by repeat (first | (with_reducible exact hg) | (with_reducible refine Gots.drew ?_) | (with_reducible refine Gots.drewN ?_ _) | (with_reducible refine Gots.alloc ?_ _) | (with_reducible refine Gots.below ?_ (by assumption)))))).mono ?_); rintro e w1 ⟨rfl, hb1⟩; have hz1 := hb1.size; (try simp at hz1); have F1 := (Blk.new _ _ _).below hb1 (by first | omega | (simp; done) | (simp; omega)); have F1l := F1.lt; have F1c0 := F1.cell 0; have F1f0 := F1.frozen 0; have F1c1 := F1.cell 1; have F1f1 := F1.frozen 1; have F1c2 := F1.cell 2; have F1f2 := F1.frozen 2; have F1c3 := F1.cell 3; have F1f3 := F1.frozen 3; have F1c4 := F1.cell 4; have F1f4 := F1.frozen 4; (try simp at F1c0 F1c1 F1c2 F1c3 F1c4); have d1 := (hb1.cell (p := ⟨b, o + 1, none⟩) (by simp; omega)).trans ((World.cell?_alloc_lt _ _ _ (by simpa using hb)).trans hc1')
      go_wp2
      all_goals first | (go_ret; exact ⟨rfl, (by repeat (first | (with_reducible exact b_refl _) | (with_reducible refine b_alloc ?_ _) | (with_reducible refine b_drew ?_) | (with_reducible refine b_drewN ?_ _) | (with_reducible refine b_set ?_ ?_ _) | (with_reducible refine b_trans ?_ (by assumption)) | (with_reducible refine b_only ?_ (by assumption) ?_) | omega | (focus (simp; done)) | (focus (simp; omega))))⟩) | (exfalso; omega) | (exfalso; simp_all; done) | (exfalso; simp_all; omega)
    · skip
      go_enter Try.func58, Try.ntmps58
      go_wp2_with fail
      (with_reducible refine (C.out _ (Gots.lift hg (by repeat (first | (with_reducible exact hg) | (with_reducible refine Gots.drew ?_) | (with_reducible refine Gots.drewN ?_ _) | (with_reducible refine Gots.alloc ?_ _) | (with_reducible refine Gots.below ?_ (by assumption)))))).mono ?_); rintro e w1 ⟨rfl, hb1⟩; have hz1 := hb1.size; (try simp at hz1); have F1 := (Blk.new _ _ _).below hb1 (by first | omega | (simp; done) | (simp; omega)); have F1l := F1.lt; have F1c0 := F1.cell 0; have F1f0 := F1.frozen 0; have F1c1 := F1.cell 1; have F1f1 := F1.frozen 1; have F1c2 := F1.cell 2; have F1f2 := F1.frozen 2; have F1c3 := F1.cell 3; have F1f3 := F1.frozen 3; have F1c4 := F1.cell 4; have F1f4 := F1.frozen 4; (try simp at F1c0 F1c1 F1c2 F1c3 F1c4); have d1 := (hb1.cell (p := ⟨b, o + 1, none⟩) (by simp; omega)).trans ((World.cell?_alloc_lt _ _ _ (by simpa using hb)).trans hc1')
      go_wp2
      all_goals first | (go_ret; exact ⟨rfl, (by repeat (first | (with_reducible exact b_refl _) | (with_reducible refine b_alloc ?_ _) | (with_reducible refine b_drew ?_) | (with_reducible refine b_drewN ?_ _) | (with_reducible refine b_set ?_ ?_ _) | (with_reducible refine b_trans ?_ (by assumption)) | (with_reducible refine b_only ?_ (by assumption) ?_) | omega | (focus (simp; done)) | (focus (simp; omega))))⟩) | (exfalso; omega) | (exfalso; simp_all; done) | (exfalso; simp_all; omega)
  have w2 : (y == 2) = false := by simpa using y2
  rw [if_neg y2]
  clear y1 y2
  cases rl
  · skip
    go_enter Try.func58, Try.ntmps58
    go_wp2_with fail
    (with_reducible refine (C.out _ (Gots.lift hg (by repeat (first | (with_reducible exact hg) | (with_reducible refine Gots.drew ?_) | (with_reducible refine Gots.drewN ?_ _) | (with_reducible refine Gots.alloc ?_ _) | (with_reducible refine Gots.below ?_ (by assumption)))))).mono ?_); rintro e w1 ⟨rfl, hb1⟩; have hz1 := hb1.size; (try simp at hz1); have F1 := (Blk.new _ _ _).below hb1 (by first | omega | (simp; done) | (simp; omega)); have F1l := F1.lt; have F1c0 := F1.cell 0; have F1f0 := F1.frozen 0; have F1c1 := F1.cell 1; have F1f1 := F1.frozen 1; have F1c2 := F1.cell 2; have F1f2 := F1.frozen 2; have F1c3 := F1.cell 3; have F1f3 := F1.frozen 3; have F1c4 := F1.cell 4; have F1f4 := F1.frozen 4; (try simp at F1c0 F1c1 F1c2 F1c3 F1c4); have d1 := (hb1.cell (p := ⟨b, o + 1, none⟩) (by simp; omega)).trans ((World.cell?_alloc_lt _ _ _ (by simpa using hb)).trans hc1')
    go_wp2
    all_goals first | (go_ret; exact ⟨rfl, (by repeat (first | (with_reducible exact b_refl _) | (with_reducible refine b_alloc ?_ _) | (with_reducible refine b_drew ?_) | (with_reducible refine b_drewN ?_ _) | (with_reducible refine b_set ?_ ?_ _) | (with_reducible refine b_trans ?_ (by assumption)) | (with_reducible refine b_only ?_ (by assumption) ?_) | omega | (focus (simp; done)) | (focus (simp; omega))))⟩) | (exfalso; omega) | (exfalso; simp_all; done) | (exfalso; simp_all; omega)
  · skip
    go_enter Try.func58, Try.ntmps58
    go_wp2_with fail
    (with_reducible refine (C.out _ (Gots.lift hg (by repeat (first | (with_reducible exact hg) | (with_reducible refine Gots.drew ?_) | (with_reducible refine Gots.drewN ?_ _) | (with_reducible refine Gots.alloc ?_ _) | (with_reducible refine Gots.below ?_ (by assumption)))))).mono ?_); rintro e w1 ⟨rfl, hb1⟩; have hz1 := hb1.size; (try simp at hz1); have F1 := (Blk.new _ _ _).below hb1 (by first | omega | (simp; done) | (simp; omega)); have F1l := F1.lt; have F1c0 := F1.cell 0; have F1f0 := F1.frozen 0; have F1c1 := F1.cell 1; have F1f1 := F1.frozen 1; have F1c2 := F1.cell 2; have F1f2 := F1.frozen 2; have F1c3 := F1.cell 3; have F1f3 := F1.frozen 3; have F1c4 := F1.cell 4; have F1f4 := F1.frozen 4; (try simp at F1c0 F1c1 F1c2 F1c3 F1c4); have d1 := (hb1.cell (p := ⟨b, o + 1, none⟩) (by simp; omega)).trans ((World.cell?_alloc_lt _ _ _ (by simpa using hb)).trans hc1')
    go_wp2
    all_goals first | (go_ret; exact ⟨rfl, (by repeat (first | (with_reducible exact b_refl _) | (with_reducible refine b_alloc ?_ _) | (with_reducible refine b_drew ?_) | (with_reducible refine b_drewN ?_ _) | (with_reducible refine b_set ?_ ?_ _) | (with_reducible refine b_trans ?_ (by assumption)) | (with_reducible refine b_only ?_ (by assumption) ?_) | omega | (focus (simp; done)) | (focus (simp; omega))))⟩) | (exfalso; omega) | (exfalso; simp_all; done) | (exfalso; simp_all; omega)
end Go.Proofs.Ytflimlalccmdnaa
