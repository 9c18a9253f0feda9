/-
  THE REFERENCE's INTERRUPTS: RecvReady, RecvStatus, IrqOf, ModemChanged, ModemSet, l15Status, PortIrq. Condition: at most 2^20 elements.
-/
import Derived.Test.YtdnjdbafffifeaaSend
import Derived.Test.YtdnjdbafffifeaaPortV
set_option linter.unusedVariables false
set_option linter.unusedSimpArgs false
namespace Go.Proofs.Ytdnjdbafffifeaa
open Go.ChangeShapes Go.WideShapes Go.ChangeAt Go.RowKit

def recvReady (rm tr : Int) (gs : List (Int × Int)) (ag : Int) : Int := if recvOk rm tr gs ag = true then (if gs.length = 0 then 0 else if tr ≤ gs.length then 1 else if 4 ≤ ag then 2 else 0) else 0
def codeBits (c : Int) : Int := if c = 1 then 4 else if c = 2 then 8 else 0
def recvStatus (rm tr : Int) (gs : List (Int × Int)) (lo : Bool) (ag : Int) : Int := if recvOk rm tr gs ag = true then (if lo then 2 else 0) + (if gs.length = 0 then 0 else 1 + codeBits (gs.headD (0, 0)).2) else -1
theorem recvOk_tr {rm tr ag : Int} {gs : List (Int × Int)} (h : recvOk rm tr gs ag = true) : 1 ≤ tr := by
  simp [recvOk, in_] at h
  omega
theorem spec_RecvReady (rr rt : Int) (RA : Option Addr) (rn rc : Nat) (rl : Bool) (ra : Int) (gs : List (Int × Int)) (w : World) (hg : Gots w RA rn gs) (hn : rn ≤ 1048576) :
    Calls Try.prog 104 #[.agg #[.int .i64 rr, .int .i64 rt, .slice RA rn rc, .bool rl, .int .i64 ra]] w fun e w' => e = .returned (.int .i64 (recvReady rr rt gs ra)) ∧ Below w.heap.size w w' := by
  have hl := hg.len
  have c := fun w h => spec_RecvValid rr rt RA rn rc rl ra gs w h (by omega)
  rw [recvReady, hl]
  by_cases k : recvOk rr rt gs ra = true
  case' neg =>
    have k2 : recvOk rr rt gs ra = false := by simpa using k
    rw [if_neg k]
    rw [k2] at c
    have C := Lib.hid c
    clear c k k2 hl
    go_enter Try.func104, Try.ntmps104
    go_wp2_with fail
    (with_reducible refine (C.out _ (Gots.lift hg (by repeat (first | (with_reducible exact hg) | (with_reducible refine Gots.drew ?_) | (with_reducible refine Gots.drewN ?_ _) | (with_reducible refine Gots.alloc ?_ _) | (with_reducible refine Gots.below ?_ (by assumption)))))).mono ?_); rintro e w1 ⟨rfl, hb1⟩; have hz1 := hb1.size; (try simp at hz1); have F1 := (Blk.new _ _ _).below hb1 (by first | omega | (simp; done) | (simp; omega)); have F1l := F1.lt; have F1c0 := F1.cell 0; have F1f0 := F1.frozen 0; have F1c1 := F1.cell 1; have F1f1 := F1.frozen 1; have F1c2 := F1.cell 2; have F1f2 := F1.frozen 2; have F1c3 := F1.cell 3; have F1f3 := F1.frozen 3; have F1c4 := F1.cell 4; have F1f4 := F1.frozen 4; (try simp at F1c0 F1c1 F1c2 F1c3 F1c4)
    go_wp2
    all_goals first | (go_ret; exact ⟨rfl, (by repeat (first | (with_reducible exact b_refl _) | (with_reducible refine b_alloc ?_ _) | (with_reducible refine b_drew ?_) | (with_reducible refine b_drewN ?_ _) | (with_reducible refine b_set ?_ ?_ _) | (with_reducible refine b_trans ?_ (by assumption)) | (with_reducible refine b_only ?_ (by assumption) ?_) | omega | (focus (simp; done)) | (focus (simp; omega))))⟩) | (exfalso; omega) | (exfalso; simp_all; done) | (exfalso; simp_all; omega)
  have ht := recvOk_tr k
  rw [if_pos k]
  rw [k] at c
  have C := Lib.hid c
  clear c k hl
  by_cases z : rn = 0
  · subst z
    have q1 : ¬ rt ≤ 0 := by omega
    rw [if_pos rfl]
    go_enter Try.func104, Try.ntmps104
    go_wp2_with fail
    (with_reducible refine (C.out _ (Gots.lift hg (by repeat (first | (with_reducible exact hg) | (with_reducible refine Gots.drew ?_) | (with_reducible refine Gots.drewN ?_ _) | (with_reducible refine Gots.alloc ?_ _) | (with_reducible refine Gots.below ?_ (by assumption)))))).mono ?_); rintro e w1 ⟨rfl, hb1⟩; have hz1 := hb1.size; (try simp at hz1); have F1 := (Blk.new _ _ _).below hb1 (by first | omega | (simp; done) | (simp; omega)); have F1l := F1.lt; have F1c0 := F1.cell 0; have F1f0 := F1.frozen 0; have F1c1 := F1.cell 1; have F1f1 := F1.frozen 1; have F1c2 := F1.cell 2; have F1f2 := F1.frozen 2; have F1c3 := F1.cell 3; have F1f3 := F1.frozen 3; have F1c4 := F1.cell 4; have F1f4 := F1.frozen 4; (try simp at F1c0 F1c1 F1c2 F1c3 F1c4)
    go_wp2
    all_goals first | (go_ret; exact ⟨rfl, (by repeat (first | (with_reducible exact b_refl _) | (with_reducible refine b_alloc ?_ _) | (with_reducible refine b_drew ?_) | (with_reducible refine b_drewN ?_ _) | (with_reducible refine b_set ?_ ?_ _) | (with_reducible refine b_trans ?_ (by assumption)) | (with_reducible refine b_only ?_ (by assumption) ?_) | omega | (focus (simp; done)) | (focus (simp; omega))))⟩) | (exfalso; omega) | (exfalso; simp_all; done) | (exfalso; simp_all; omega)
  have z1 : (0 : Int) < rn := by omega
  have z2 : ¬ (rn : Int) = 0 := by omega
  have z3 : ((rn : Int) == 0) = false := by simpa using z2
  rw [if_neg z]
  by_cases q1 : rt ≤ (rn : Int)
  · rw [if_pos q1]
    go_enter Try.func104, Try.ntmps104
    go_wp2_with fail
    (with_reducible refine (C.out _ (Gots.lift hg (by repeat (first | (with_reducible exact hg) | (with_reducible refine Gots.drew ?_) | (with_reducible refine Gots.drewN ?_ _) | (with_reducible refine Gots.alloc ?_ _) | (with_reducible refine Gots.below ?_ (by assumption)))))).mono ?_); rintro e w1 ⟨rfl, hb1⟩; have hz1 := hb1.size; (try simp at hz1); have F1 := (Blk.new _ _ _).below hb1 (by first | omega | (simp; done) | (simp; omega)); have F1l := F1.lt; have F1c0 := F1.cell 0; have F1f0 := F1.frozen 0; have F1c1 := F1.cell 1; have F1f1 := F1.frozen 1; have F1c2 := F1.cell 2; have F1f2 := F1.frozen 2; have F1c3 := F1.cell 3; have F1f3 := F1.frozen 3; have F1c4 := F1.cell 4; have F1f4 := F1.frozen 4; (try simp at F1c0 F1c1 F1c2 F1c3 F1c4)
    go_wp2
    all_goals first | (go_ret; exact ⟨rfl, (by repeat (first | (with_reducible exact b_refl _) | (with_reducible refine b_alloc ?_ _) | (with_reducible refine b_drew ?_) | (with_reducible refine b_drewN ?_ _) | (with_reducible refine b_set ?_ ?_ _) | (with_reducible refine b_trans ?_ (by assumption)) | (with_reducible refine b_only ?_ (by assumption) ?_) | omega | (focus (simp; done)) | (focus (simp; omega))))⟩) | (exfalso; omega) | (exfalso; simp_all; done) | (exfalso; simp_all; omega)
  rw [if_neg q1]
  by_cases q2 : 4 ≤ ra
  · rw [if_pos q2]
    go_enter Try.func104, Try.ntmps104
    go_wp2_with fail
    (with_reducible refine (C.out _ (Gots.lift hg (by repeat (first | (with_reducible exact hg) | (with_reducible refine Gots.drew ?_) | (with_reducible refine Gots.drewN ?_ _) | (with_reducible refine Gots.alloc ?_ _) | (with_reducible refine Gots.below ?_ (by assumption)))))).mono ?_); rintro e w1 ⟨rfl, hb1⟩; have hz1 := hb1.size; (try simp at hz1); have F1 := (Blk.new _ _ _).below hb1 (by first | omega | (simp; done) | (simp; omega)); have F1l := F1.lt; have F1c0 := F1.cell 0; have F1f0 := F1.frozen 0; have F1c1 := F1.cell 1; have F1f1 := F1.frozen 1; have F1c2 := F1.cell 2; have F1f2 := F1.frozen 2; have F1c3 := F1.cell 3; have F1f3 := F1.frozen 3; have F1c4 := F1.cell 4; have F1f4 := F1.frozen 4; (try simp at F1c0 F1c1 F1c2 F1c3 F1c4)
    go_wp2
    all_goals first | (go_ret; exact ⟨rfl, (by repeat (first | (with_reducible exact b_refl _) | (with_reducible refine b_alloc ?_ _) | (with_reducible refine b_drew ?_) | (with_reducible refine b_drewN ?_ _) | (with_reducible refine b_set ?_ ?_ _) | (with_reducible refine b_trans ?_ (by assumption)) | (with_reducible refine b_only ?_ (by assumption) ?_) | omega | (focus (simp; done)) | (focus (simp; omega))))⟩) | (exfalso; omega) | (exfalso; simp_all; done) | (exfalso; simp_all; omega)
  · rw [if_neg q2]
    have q3 : ra < 4 := by omega
    go_enter Try.func104, Try.ntmps104
    go_wp2_with fail
    (with_reducible refine (C.out _ (Gots.lift hg (by repeat (first | (with_reducible exact hg) | (with_reducible refine Gots.drew ?_) | (with_reducible refine Gots.drewN ?_ _) | (with_reducible refine Gots.alloc ?_ _) | (with_reducible refine Gots.below ?_ (by assumption)))))).mono ?_); rintro e w1 ⟨rfl, hb1⟩; have hz1 := hb1.size; (try simp at hz1); have F1 := (Blk.new _ _ _).below hb1 (by first | omega | (simp; done) | (simp; omega)); have F1l := F1.lt; have F1c0 := F1.cell 0; have F1f0 := F1.frozen 0; have F1c1 := F1.cell 1; have F1f1 := F1.frozen 1; have F1c2 := F1.cell 2; have F1f2 := F1.frozen 2; have F1c3 := F1.cell 3; have F1f3 := F1.frozen 3; have F1c4 := F1.cell 4; have F1f4 := F1.frozen 4; (try simp at F1c0 F1c1 F1c2 F1c3 F1c4)
    go_wp2
    all_goals first | (go_ret; exact ⟨rfl, (by repeat (first | (with_reducible exact b_refl _) | (with_reducible refine b_alloc ?_ _) | (with_reducible refine b_drew ?_) | (with_reducible refine b_drewN ?_ _) | (with_reducible refine b_set ?_ ?_ _) | (with_reducible refine b_trans ?_ (by assumption)) | (with_reducible refine b_only ?_ (by assumption) ?_) | omega | (focus (simp; done)) | (focus (simp; omega))))⟩) | (exfalso; omega) | (exfalso; simp_all; done) | (exfalso; simp_all; omega)
theorem spec_RecvStatus (rr rt : Int) (RA : Option Addr) (rn rc : Nat) (rl : Bool) (ra : Int) (gs : List (Int × Int)) (w : World) (hg : Gots w RA rn gs) (hn : rn ≤ 1048576) :
    Calls Try.prog 113 #[.agg #[.int .i64 rr, .int .i64 rt, .slice RA rn rc, .bool rl, .int .i64 ra]] w fun e w' => e = .returned (.int .i64 (recvStatus rr rt gs rl ra)) ∧ Below w.heap.size w w' := by
  have hl := hg.len
  have c := fun w h => spec_RecvValid rr rt RA rn rc rl ra gs w h (by omega)
  rw [recvStatus, hl]
  by_cases k : recvOk rr rt gs ra = true
  case' neg =>
    have k2 : recvOk rr rt gs ra = false := by simpa using k
    rw [if_neg k]
    rw [k2] at c
    have C := Lib.hid c
    clear c k k2 hl
    go_enter Try.func113, Try.ntmps113
    go_wp2_with fail
    (with_reducible refine (C.out _ (Gots.lift hg (by repeat (first | (with_reducible exact hg) | (with_reducible refine Gots.drew ?_) | (with_reducible refine Gots.drewN ?_ _) | (with_reducible refine Gots.alloc ?_ _) | (with_reducible refine Gots.below ?_ (by assumption)))))).mono ?_); rintro e w1 ⟨rfl, hb1⟩; have hz1 := hb1.size; (try simp at hz1); have F1 := (Blk.new _ _ _).below hb1 (by first | omega | (simp; done) | (simp; omega)); have F1l := F1.lt; have F1c0 := F1.cell 0; have F1f0 := F1.frozen 0; have F1c1 := F1.cell 1; have F1f1 := F1.frozen 1; have F1c2 := F1.cell 2; have F1f2 := F1.frozen 2; have F1c3 := F1.cell 3; have F1f3 := F1.frozen 3; have F1c4 := F1.cell 4; have F1f4 := F1.frozen 4; (try simp at F1c0 F1c1 F1c2 F1c3 F1c4)
    go_wp2
    all_goals first | (go_ret; exact ⟨rfl, (by repeat (first | (with_reducible exact b_refl _) | (with_reducible refine b_alloc ?_ _) | (with_reducible refine b_drew ?_) | (with_reducible refine b_drewN ?_ _) | (with_reducible refine b_set ?_ ?_ _) | (with_reducible refine b_trans ?_ (by assumption)) | (with_reducible refine b_only ?_ (by assumption) ?_) | omega | (focus (simp; done)) | (focus (simp; omega))))⟩) | (exfalso; omega) | (exfalso; simp_all; done) | (exfalso; simp_all; omega)
  rw [if_pos k]
  rw [k] at c
  have C := Lib.hid c
  clear c k hl
  by_cases z : rn = 0
  · subst z
    cases rl
    · skip
      go_enter Try.func113, Try.ntmps113
      go_wp2_with fail
      (with_reducible refine (C.out _ (Gots.lift hg (by repeat (first | (with_reducible exact hg) | (with_reducible refine Gots.drew ?_) | (with_reducible refine Gots.drewN ?_ _) | (with_reducible refine Gots.alloc ?_ _) | (with_reducible refine Gots.below ?_ (by assumption)))))).mono ?_); rintro e w1 ⟨rfl, hb1⟩; have hz1 := hb1.size; (try simp at hz1); have F1 := (Blk.new _ _ _).below hb1 (by first | omega | (simp; done) | (simp; omega)); have F1l := F1.lt; have F1c0 := F1.cell 0; have F1f0 := F1.frozen 0; have F1c1 := F1.cell 1; have F1f1 := F1.frozen 1; have F1c2 := F1.cell 2; have F1f2 := F1.frozen 2; have F1c3 := F1.cell 3; have F1f3 := F1.frozen 3; have F1c4 := F1.cell 4; have F1f4 := F1.frozen 4; (try simp at F1c0 F1c1 F1c2 F1c3 F1c4)
      go_wp2
      all_goals first | (go_ret; exact ⟨rfl, (by repeat (first | (with_reducible exact b_refl _) | (with_reducible refine b_alloc ?_ _) | (with_reducible refine b_drew ?_) | (with_reducible refine b_drewN ?_ _) | (with_reducible refine b_set ?_ ?_ _) | (with_reducible refine b_trans ?_ (by assumption)) | (with_reducible refine b_only ?_ (by assumption) ?_) | omega | (focus (simp; done)) | (focus (simp; omega))))⟩) | (exfalso; omega) | (exfalso; simp_all; done) | (exfalso; simp_all; omega)
    · skip
      go_enter Try.func113, Try.ntmps113
      go_wp2_with fail
      (with_reducible refine (C.out _ (Gots.lift hg (by repeat (first | (with_reducible exact hg) | (with_reducible refine Gots.drew ?_) | (with_reducible refine Gots.drewN ?_ _) | (with_reducible refine Gots.alloc ?_ _) | (with_reducible refine Gots.below ?_ (by assumption)))))).mono ?_); rintro e w1 ⟨rfl, hb1⟩; have hz1 := hb1.size; (try simp at hz1); have F1 := (Blk.new _ _ _).below hb1 (by first | omega | (simp; done) | (simp; omega)); have F1l := F1.lt; have F1c0 := F1.cell 0; have F1f0 := F1.frozen 0; have F1c1 := F1.cell 1; have F1f1 := F1.frozen 1; have F1c2 := F1.cell 2; have F1f2 := F1.frozen 2; have F1c3 := F1.cell 3; have F1f3 := F1.frozen 3; have F1c4 := F1.cell 4; have F1f4 := F1.frozen 4; (try simp at F1c0 F1c1 F1c2 F1c3 F1c4)
      go_wp2
      all_goals first | (go_ret; exact ⟨rfl, (by repeat (first | (with_reducible exact b_refl _) | (with_reducible refine b_alloc ?_ _) | (with_reducible refine b_drew ?_) | (with_reducible refine b_drewN ?_ _) | (with_reducible refine b_set ?_ ?_ _) | (with_reducible refine b_trans ?_ (by assumption)) | (with_reducible refine b_only ?_ (by assumption) ?_) | omega | (focus (simp; done)) | (focus (simp; omega))))⟩) | (exfalso; omega) | (exfalso; simp_all; done) | (exfalso; simp_all; omega)
  have z1 : (0 : Int) < rn := by omega
  have z2 : ¬ (rn : Int) = 0 := by omega
  have z3 : ((rn : Int) == 0) = false := by simpa using z2
  rw [if_neg z]
  obtain ⟨b, o, x, y, rfl, hb, ex, hc0, hc1⟩ := hg.at_ (k := 0) (by omega)
  have hh : gs.headD (0, 0) = (x, y) := by cases gs <;> simp_all
  rw [hh]
  simp only [Nat.zero_mul, Nat.add_zero] at hc0 hc1
  have hc1' : w.cell? ⟨b, o + 1, none⟩ = some (.int .i64 y) := hc1
  unfold codeBits
  clear ex hh hc0 hc1
  by_cases y1 : y = 1
  · subst y1
    cases rl
    · skip
      go_enter Try.func113, Try.ntmps113
      go_wp2_with fail
      (with_reducible refine (C.out _ (Gots.lift hg (by repeat (first | (with_reducible exact hg) | (with_reducible refine Gots.drew ?_) | (with_reducible refine Gots.drewN ?_ _) | (with_reducible refine Gots.alloc ?_ _) | (with_reducible refine Gots.below ?_ (by assumption)))))).mono ?_); rintro e w1 ⟨rfl, hb1⟩; have hz1 := hb1.size; (try simp at hz1); have F1 := (Blk.new _ _ _).below hb1 (by first | omega | (simp; done) | (simp; omega)); have F1l := F1.lt; have F1c0 := F1.cell 0; have F1f0 := F1.frozen 0; have F1c1 := F1.cell 1; have F1f1 := F1.frozen 1; have F1c2 := F1.cell 2; have F1f2 := F1.frozen 2; have F1c3 := F1.cell 3; have F1f3 := F1.frozen 3; have F1c4 := F1.cell 4; have F1f4 := F1.frozen 4; (try simp at F1c0 F1c1 F1c2 F1c3 F1c4); have d1 := (hb1.cell (p := ⟨b, o + 1, none⟩) (by simp; omega)).trans ((World.cell?_alloc_lt _ _ _ (by simpa using hb)).trans hc1')
      go_wp2
      all_goals first | (go_ret; exact ⟨rfl, (by repeat (first | (with_reducible exact b_refl _) | (with_reducible refine b_alloc ?_ _) | (with_reducible refine b_drew ?_) | (with_reducible refine b_drewN ?_ _) | (with_reducible refine b_set ?_ ?_ _) | (with_reducible refine b_trans ?_ (by assumption)) | (with_reducible refine b_only ?_ (by assumption) ?_) | omega | (focus (simp; done)) | (focus (simp; omega))))⟩) | (exfalso; omega) | (exfalso; simp_all; done) | (exfalso; simp_all; omega)
    · skip
      go_enter Try.func113, Try.ntmps113
      go_wp2_with fail
      (with_reducible refine (C.out _ (Gots.lift hg (by repeat (first | (with_reducible exact hg) | (with_reducible refine Gots.drew ?_) | (with_reducible refine Gots.drewN ?_ _) | (with_reducible refine Gots.alloc ?_ _) | (with_reducible refine Gots.below ?_ (by assumption)))))).mono ?_); rintro e w1 ⟨rfl, hb1⟩; have hz1 := hb1.size; (try simp at hz1); have F1 := (Blk.new _ _ _).below hb1 (by first | omega | (simp; done) | (simp; omega)); have F1l := F1.lt; have F1c0 := F1.cell 0; have F1f0 := F1.frozen 0; have F1c1 := F1.cell 1; have F1f1 := F1.frozen 1; have F1c2 := F1.cell 2; have F1f2 := F1.frozen 2; have F1c3 := F1.cell 3; have F1f3 := F1.frozen 3; have F1c4 := F1.cell 4; have F1f4 := F1.frozen 4; (try simp at F1c0 F1c1 F1c2 F1c3 F1c4); have d1 := (hb1.cell (p := ⟨b, o + 1, none⟩) (by simp; omega)).trans ((World.cell?_alloc_lt _ _ _ (by simpa using hb)).trans hc1')
      go_wp2
      all_goals first | (go_ret; exact ⟨rfl, (by repeat (first | (with_reducible exact b_refl _) | (with_reducible refine b_alloc ?_ _) | (with_reducible refine b_drew ?_) | (with_reducible refine b_drewN ?_ _) | (with_reducible refine b_set ?_ ?_ _) | (with_reducible refine b_trans ?_ (by assumption)) | (with_reducible refine b_only ?_ (by assumption) ?_) | omega | (focus (simp; done)) | (focus (simp; omega))))⟩) | (exfalso; omega) | (exfalso; simp_all; done) | (exfalso; simp_all; omega)
  have w1 : (y == 1) = false := by simpa using y1
  rw [if_neg y1]
  by_cases y2 : y = 2
  · subst y2
    cases rl
    · skip
      go_enter Try.func113, Try.ntmps113
      go_wp2_with fail
      (with_reducible refine (C.out _ (Gots.lift hg (by repeat (first | (with_reducible exact hg) | (with_reducible refine Gots.drew ?_) | (with_reducible refine Gots.drewN ?_ _) | (with_reducible refine Gots.alloc ?_ _) | (with_reducible refine Gots.below ?_ (by assumption)))))).mono ?_); rintro e w1 ⟨rfl, hb1⟩; have hz1 := hb1.size; (try simp at hz1); have F1 := (Blk.new _ _ _).below hb1 (by first | omega | (simp; done) | (simp; omega)); have F1l := F1.lt; have F1c0 := F1.cell 0; have F1f0 := F1.frozen 0; have F1c1 := F1.cell 1; have F1f1 := F1.frozen 1; have F1c2 := F1.cell 2; have F1f2 := F1.frozen 2; have F1c3 := F1.cell 3; have F1f3 := F1.frozen 3; have F1c4 := F1.cell 4; have F1f4 := F1.frozen 4; (try simp at F1c0 F1c1 F1c2 F1c3 F1c4); have d1 := (hb1.cell (p := ⟨b, o + 1, none⟩) (by simp; omega)).trans ((World.cell?_alloc_lt _ _ _ (by simpa using hb)).trans hc1')
      go_wp2
      all_goals first | (go_ret; exact ⟨rfl, (by repeat (first | (with_reducible exact b_refl _) | (with_reducible refine b_alloc ?_ _) | (with_reducible refine b_drew ?_) | (with_reducible refine b_drewN ?_ _) | (with_reducible refine b_set ?_ ?_ _) | (with_reducible refine b_trans ?_ (by assumption)) | (with_reducible refine b_only ?_ (by assumption) ?_) | omega | (focus (simp; done)) | (focus (simp; omega))))⟩) | (exfalso; omega) | (exfalso; simp_all; done) | (exfalso; simp_all; omega)
    · skip
      go_enter Try.func113, Try.ntmps113
      go_wp2_with fail
      (with_reducible refine (C.out _ (Gots.lift hg (by repeat (first | (with_reducible exact hg) | (with_reducible refine Gots.drew ?_) | (with_reducible refine Gots.drewN ?_ _) | (with_reducible refine Gots.alloc ?_ _) | (with_reducible refine Gots.below ?_ (by assumption)))))).mono ?_); rintro e w1 ⟨rfl, hb1⟩; have hz1 := hb1.size; (try simp at hz1); have F1 := (Blk.new _ _ _).below hb1 (by first | omega | (simp; done) | (simp; omega)); have F1l := F1.lt; have F1c0 := F1.cell 0; have F1f0 := F1.frozen 0; have F1c1 := F1.cell 1; have F1f1 := F1.frozen 1; have F1c2 := F1.cell 2; have F1f2 := F1.frozen 2; have F1c3 := F1.cell 3; have F1f3 := F1.frozen 3; have F1c4 := F1.cell 4; have F1f4 := F1.frozen 4; (try simp at F1c0 F1c1 F1c2 F1c3 F1c4); have d1 := (hb1.cell (p := ⟨b, o + 1, none⟩) (by simp; omega)).trans ((World.cell?_alloc_lt _ _ _ (by simpa using hb)).trans hc1')
      go_wp2
      all_goals first | (go_ret; exact ⟨rfl, (by repeat (first | (with_reducible exact b_refl _) | (with_reducible refine b_alloc ?_ _) | (with_reducible refine b_drew ?_) | (with_reducible refine b_drewN ?_ _) | (with_reducible refine b_set ?_ ?_ _) | (with_reducible refine b_trans ?_ (by assumption)) | (with_reducible refine b_only ?_ (by assumption) ?_) | omega | (focus (simp; done)) | (focus (simp; omega))))⟩) | (exfalso; omega) | (exfalso; simp_all; done) | (exfalso; simp_all; omega)
  have w2 : (y == 2) = false := by simpa using y2
  rw [if_neg y2]
  clear y1 y2
  cases rl
  · skip
    go_enter Try.func113, Try.ntmps113
    go_wp2_with fail
    (with_reducible refine (C.out _ (Gots.lift hg (by repeat (first | (with_reducible exact hg) | (with_reducible refine Gots.drew ?_) | (with_reducible refine Gots.drewN ?_ _) | (with_reducible refine Gots.alloc ?_ _) | (with_reducible refine Gots.below ?_ (by assumption)))))).mono ?_); rintro e w1 ⟨rfl, hb1⟩; have hz1 := hb1.size; (try simp at hz1); have F1 := (Blk.new _ _ _).below hb1 (by first | omega | (simp; done) | (simp; omega)); have F1l := F1.lt; have F1c0 := F1.cell 0; have F1f0 := F1.frozen 0; have F1c1 := F1.cell 1; have F1f1 := F1.frozen 1; have F1c2 := F1.cell 2; have F1f2 := F1.frozen 2; have F1c3 := F1.cell 3; have F1f3 := F1.frozen 3; have F1c4 := F1.cell 4; have F1f4 := F1.frozen 4; (try simp at F1c0 F1c1 F1c2 F1c3 F1c4); have d1 := (hb1.cell (p := ⟨b, o + 1, none⟩) (by simp; omega)).trans ((World.cell?_alloc_lt _ _ _ (by simpa using hb)).trans hc1')
    go_wp2
    all_goals first | (go_ret; exact ⟨rfl, (by repeat (first | (with_reducible exact b_refl _) | (with_reducible refine b_alloc ?_ _) | (with_reducible refine b_drew ?_) | (with_reducible refine b_drewN ?_ _) | (with_reducible refine b_set ?_ ?_ _) | (with_reducible refine b_trans ?_ (by assumption)) | (with_reducible refine b_only ?_ (by assumption) ?_) | omega | (focus (simp; done)) | (focus (simp; omega))))⟩) | (exfalso; omega) | (exfalso; simp_all; done) | (exfalso; simp_all; omega)
  · skip
    go_enter Try.func113, Try.ntmps113
    go_wp2_with fail
    (with_reducible refine (C.out _ (Gots.lift hg (by repeat (first | (with_reducible exact hg) | (with_reducible refine Gots.drew ?_) | (with_reducible refine Gots.drewN ?_ _) | (with_reducible refine Gots.alloc ?_ _) | (with_reducible refine Gots.below ?_ (by assumption)))))).mono ?_); rintro e w1 ⟨rfl, hb1⟩; have hz1 := hb1.size; (try simp at hz1); have F1 := (Blk.new _ _ _).below hb1 (by first | omega | (simp; done) | (simp; omega)); have F1l := F1.lt; have F1c0 := F1.cell 0; have F1f0 := F1.frozen 0; have F1c1 := F1.cell 1; have F1f1 := F1.frozen 1; have F1c2 := F1.cell 2; have F1f2 := F1.frozen 2; have F1c3 := F1.cell 3; have F1f3 := F1.frozen 3; have F1c4 := F1.cell 4; have F1f4 := F1.frozen 4; (try simp at F1c0 F1c1 F1c2 F1c3 F1c4); have d1 := (hb1.cell (p := ⟨b, o + 1, none⟩) (by simp; omega)).trans ((World.cell?_alloc_lt _ _ _ (by simpa using hb)).trans hc1')
    go_wp2
    all_goals first | (go_ret; exact ⟨rfl, (by repeat (first | (with_reducible exact b_refl _) | (with_reducible refine b_alloc ?_ _) | (with_reducible refine b_drew ?_) | (with_reducible refine b_drewN ?_ _) | (with_reducible refine b_set ?_ ?_ _) | (with_reducible refine b_trans ?_ (by assumption)) | (with_reducible refine b_only ?_ (by assumption) ?_) | omega | (focus (simp; done)) | (focus (simp; omega))))⟩) | (exfalso; omega) | (exfalso; simp_all; done) | (exfalso; simp_all; omega)
def irqN (b0 b1 b2 b3 b4 : Bool) : Int := if b0 then 6 else if b1 then 4 else if b2 then 12 else if b3 then 2 else if b4 then 0 else 1
def bt (n b : Int) : Bool := n / b % 2 == 1
def irqValid (st rd en : Int) : Bool := in_ st 0 127 && in_ rd 0 2 && in_ en 0 15
def irqAll (st rd : Int) (md : Bool) (en : Int) : Int := if irqValid st rd en = true then irqN (bt en 4 && decide (2 ≤ st % 16)) (bt en 1 && rd == 1) (bt en 1 && rd == 2) (bt en 2 && bt st 32) (bt en 8 && md) else 1
theorem l13_1 (n : Int) (w : World) (h0 : 0 ≤ n) (h1 : n ≤ 127) : Calls Try.prog 75 #[.int .i64 n, .int .i64 1] w fun e w' => e = .returned (.bool (bt n 1)) ∧ w = w' := by
  go_enter Try.func75, Try.ntmps75
  go_wp2
  go_ret
  exact ⟨ret_bool (by simp [bt]), rfl⟩
theorem l13_2 (n : Int) (w : World) (h0 : 0 ≤ n) (h1 : n ≤ 127) : Calls Try.prog 75 #[.int .i64 n, .int .i64 2] w fun e w' => e = .returned (.bool (bt n 2)) ∧ w = w' := by
  go_enter Try.func75, Try.ntmps75
  go_wp2
  go_ret
  exact ⟨ret_bool (by simp [bt]), rfl⟩
theorem l13_4 (n : Int) (w : World) (h0 : 0 ≤ n) (h1 : n ≤ 127) : Calls Try.prog 75 #[.int .i64 n, .int .i64 4] w fun e w' => e = .returned (.bool (bt n 4)) ∧ w = w' := by
  go_enter Try.func75, Try.ntmps75
  go_wp2
  go_ret
  exact ⟨ret_bool (by simp [bt]), rfl⟩
theorem l13_8 (n : Int) (w : World) (h0 : 0 ≤ n) (h1 : n ≤ 127) : Calls Try.prog 75 #[.int .i64 n, .int .i64 8] w fun e w' => e = .returned (.bool (bt n 8)) ∧ w = w' := by
  go_enter Try.func75, Try.ntmps75
  go_wp2
  go_ret
  exact ⟨ret_bool (by simp [bt]), rfl⟩
theorem l13_32 (n : Int) (w : World) (h0 : 0 ≤ n) (h1 : n ≤ 127) : Calls Try.prog 75 #[.int .i64 n, .int .i64 32] w fun e w' => e = .returned (.bool (bt n 32)) ∧ w = w' := by
  go_enter Try.func75, Try.ntmps75
  go_wp2
  go_ret
  exact ⟨ret_bool (by simp [bt]), rfl⟩
theorem spec_IrqOf (st rd en : Int) (md : Bool) (w : World) : Calls Try.prog 102 #[.int .i64 st, .int .i64 rd, .bool md, .int .i64 en] w fun e w' => e = .returned (.int .i64 (irqAll st rd md en)) ∧ Below w.heap.size w w' := by
  rw [irqAll, irqValid]
  by_cases v1 : in_ st 0 127 = true
  case' neg =>
    have z1 : in_ st 0 127 = false := by simpa using v1
    rw [z1]
    go_enter Try.func102, Try.ntmps102
    go_wp2_with (go_at_call 40; refine (l6In_any _ _ _ _).mono ?_; rintro e w' ⟨rfl, rfl⟩)
    go_ret
    exact ⟨rfl, (by repeat (first | (with_reducible exact b_refl _) | (with_reducible refine b_alloc ?_ _) | (with_reducible refine b_drew ?_) | (with_reducible refine b_drewN ?_ _) | (with_reducible refine b_set ?_ ?_ _) | (with_reducible refine b_trans ?_ (by assumption)) | (with_reducible refine b_only ?_ (by assumption) ?_) | omega | (focus (simp; done)) | (focus (simp; omega))))⟩
  by_cases v2 : in_ rd 0 2 = true
  case' neg =>
    have z2 : in_ rd 0 2 = false := by simpa using v2
    rw [v1, z2]
    go_enter Try.func102, Try.ntmps102
    go_wp2_with (go_at_call 40; refine (l6In_any _ _ _ _).mono ?_; rintro e w' ⟨rfl, rfl⟩)
    go_ret
    exact ⟨rfl, (by repeat (first | (with_reducible exact b_refl _) | (with_reducible refine b_alloc ?_ _) | (with_reducible refine b_drew ?_) | (with_reducible refine b_drewN ?_ _) | (with_reducible refine b_set ?_ ?_ _) | (with_reducible refine b_trans ?_ (by assumption)) | (with_reducible refine b_only ?_ (by assumption) ?_) | omega | (focus (simp; done)) | (focus (simp; omega))))⟩
  by_cases v3 : in_ en 0 15 = true
  case' neg =>
    have z3 : in_ en 0 15 = false := by simpa using v3
    rw [v1, v2, z3]
    go_enter Try.func102, Try.ntmps102
    go_wp2_with (go_at_call 40; refine (l6In_any _ _ _ _).mono ?_; rintro e w' ⟨rfl, rfl⟩)
    go_ret
    exact ⟨rfl, (by repeat (first | (with_reducible exact b_refl _) | (with_reducible refine b_alloc ?_ _) | (with_reducible refine b_drew ?_) | (with_reducible refine b_drewN ?_ _) | (with_reducible refine b_set ?_ ?_ _) | (with_reducible refine b_trans ?_ (by assumption)) | (with_reducible refine b_only ?_ (by assumption) ?_) | omega | (focus (simp; done)) | (focus (simp; omega))))⟩
  rw [v1, v2, v3, if_pos (by rfl)]
  have a1 : 0 ≤ st ∧ st ≤ 127 := by simpa [in_] using v1
  have a3 : 0 ≤ en ∧ en ≤ 15 := by simpa [in_] using v3
  obtain ⟨a1, a2⟩ := a1
  obtain ⟨a3, a4⟩ := a3
  go_enter Try.func102, Try.ntmps102
  go_wp2_with (first | (go_at_call 40; refine (l6In_any _ _ _ _).mono ?_; rintro e w' ⟨rfl, rfl⟩) | (go_at_call_of 75 (Value.int IntKind.i64 4); refine (l13_4 _ _ (by omega) (by omega)).mono ?_; rintro e w' ⟨rfl, rfl⟩) | (go_at_call_of 75 (Value.int IntKind.i64 1); refine (l13_1 _ _ (by omega) (by omega)).mono ?_; rintro e w' ⟨rfl, rfl⟩) | (go_at_call_of 75 (Value.int IntKind.i64 2); refine (l13_2 _ _ (by omega) (by omega)).mono ?_; rintro e w' ⟨rfl, rfl⟩) | (go_at_call_of 75 (Value.int IntKind.i64 32); refine (l13_32 _ _ (by omega) (by omega)).mono ?_; rintro e w' ⟨rfl, rfl⟩) | (go_at_call_of 75 (Value.int IntKind.i64 8); refine (l13_8 _ _ (by omega) (by omega)).mono ?_; rintro e w' ⟨rfl, rfl⟩))
  all_goals
    go_ret
    refine ⟨ret_int ?_, (by repeat (first | (with_reducible exact b_refl _) | (with_reducible refine b_alloc ?_ _) | (with_reducible refine b_drew ?_) | (with_reducible refine b_drewN ?_ _) | (with_reducible refine b_set ?_ ?_ _) | (with_reducible refine b_trans ?_ (by assumption)) | (with_reducible refine b_only ?_ (by assumption) ?_) | omega | (focus (simp; done)) | (focus (simp; omega))))⟩
    clear v1 v2 v3 a1 a2 a3 a4
    simp_all [irqN]
    try omega
theorem spec_ModemChanged (a b c d : Bool) (w : World) : Calls Try.prog 105 #[.agg #[.bool a, .bool b, .bool c, .bool d]] w fun e w' => e = .returned (.bool (c || d)) ∧ Below w.heap.size w w' := by
  go_enter Try.func105, Try.ntmps105
  go_wp2
  all_goals go_ret
  all_goals exact ⟨ret_bool (by simp_all), (by repeat (first | (with_reducible exact b_refl _) | (with_reducible refine b_alloc ?_ _) | (with_reducible refine b_drew ?_) | (with_reducible refine b_drewN ?_ _) | (with_reducible refine b_set ?_ ?_ _) | (with_reducible refine b_trans ?_ (by assumption)) | (with_reducible refine b_only ?_ (by assumption) ?_) | omega | (focus (simp; done)) | (focus (simp; omega))))⟩
theorem spec_ModemSet (a b c d x y : Bool) (w : World) : Calls Try.prog 97 #[.agg #[.bool a, .bool b, .bool c, .bool d], .bool x, .bool y] w fun e w' => e = .returned (.agg #[.bool x, .bool y, .bool (c || a != x), .bool (d || b != y)]) ∧ Below w.heap.size w w' := by
  go_enter Try.func97, Try.ntmps97
  go_wp2
  all_goals (refine bodyPost_ret (by simp [results, Try.results97, go_sem, *]; repeat (first | exact rfl | refine And.intro ?_ ?_)) rfl ⟨?_, (by repeat (first | (with_reducible exact b_refl _) | (with_reducible refine b_alloc ?_ _) | (with_reducible refine b_drew ?_) | (with_reducible refine b_drewN ?_ _) | (with_reducible refine b_set ?_ ?_ _) | (with_reducible refine b_trans ?_ (by assumption)) | (with_reducible refine b_only ?_ (by assumption) ?_) | omega | (focus (simp; done)) | (focus (simp; omega))))⟩; simp_all [bne])
theorem wpAnyH_takeD {P : Program} {md : Region.Mode} {ops : Array Oper} {Q : Exit → Act → World → Prop} {S : World → Prop} {i : Nat} {oi : Oper} {v : Value} {d : Option Tmp} {fuel : Nat} {listed : Array Bool} {a : Act} {w : World} (hi : ops[i]? = some oi) (hd : oi.dst = d)
    (hs : Region.noSelect ops = true) (hf : Region.free md ops listed i = true) (hr : (Region.ready md ops listed).contains i = true)
    (hQ : ∀ c a w, Q (.panic c) (a.put d v) w → Q (.panic c) a w) (hy : YieldsIf P ops S oi v a) (hS : S w)
    (h : wpAnyH P md ops Q S fuel (listed.setIfInBounds i true) (a.put d v) w) : wpAnyH P md ops Q S (fuel + 1) listed a w := by
  subst hd
  exact wpAnyH_take hi hs hf hr hQ hy hS h
theorem recvStatus_bd (rr rt : Int) (gs : List (Int × Int)) (rl : Bool) (ra : Int) : -1 ≤ recvStatus rr rt gs rl ra ∧ recvStatus rr rt gs rl ra ≤ 15 := by
  unfold recvStatus codeBits
  split
  · split <;> split
    · omega
    · split
      · omega
      · split <;> omega
    · omega
    · split
      · omega
      · split <;> omega
  · omega
theorem sendStatus_bd (sr : Int) (xs : List Int) (sh sl : Int) : -1 ≤ sendStatus sr xs sh sl ∧ sendStatus sr xs sh sl ≤ 96 := by
  unfold sendStatus
  split
  · split
    · omega
    · split <;> omega
  · omega
theorem l15Status_any {b p s en ct rr rt ra sr sh sl : Int} {rl ma mb mc md : Bool} {rn sn : Nat} {gs : List (Int × Int)} {xs : List Int} {RA SA : Option Addr} {rc sc : Nat} (w : World) (hg : Gots w RA rn gs) (hx : Ints w SA sn xs) (hrn : rn ≤ 1048576) (hsn : sn ≤ 1048576) :
    Calls Try.prog 103 #[.agg #[.int .i64 b, .int .i64 p, .int .i64 s, .int .i64 en, .int .i64 ct, .int .i64 rr, .int .i64 rt, .slice RA rn rc, .bool rl, .int .i64 ra, .int .i64 sr, .slice SA sn sc, .int .i64 sh, .int .i64 sl, .bool ma, .bool mb, .bool mc, .bool md]] w fun e w' => e = .returned (.int .i64 (recvStatus rr rt gs rl ra + sendStatus sr xs sh sl)) ∧ Below w.heap.size w w' := by
  have c1 := fun w h => spec_RecvStatus rr rt RA rn rc rl ra gs w h hrn
  have c2 := fun w h => spec_SendStatus sr SA sn sc sh sl xs w h (by omega)
  obtain ⟨d1, d2⟩ := recvStatus_bd rr rt gs rl ra
  obtain ⟨d3, d4⟩ := sendStatus_bd sr xs sh sl
  generalize recvStatus rr rt gs rl ra = st1 at *
  generalize sendStatus sr xs sh sl = st2 at *
  have C1 := Lib.hid c1
  have C2 := Lib.hid c2
  clear c1 c2
  go_enter Try.func103, Try.ntmps103
  go_wp2
  refine wp_region_held_drew (S := fun w' => Blk w' w.heap.size 47 #[.int .i64 b, .int .i64 p, .int .i64 s, .int .i64 en, .int .i64 ct, .int .i64 rr, .int .i64 rt, .slice RA rn rc, .bool rl, .int .i64 ra, .int .i64 sr, .slice SA sn sc, .int .i64 sh, .int .i64 sl, .bool ma, .bool mb, .bool mc, .bool md]) (by kernel_rfl) (Blk.drew (Blk.new _ _ _)) (fun hHeld => ?_)
  refine wpAnyH_takeD (i := 0) (v := ?_) (d := some 3) rfl rfl (by kernel_rfl) (by kernel_rfl) (by kernel_rfl) (fun _ _ _ h => h) (Or.inl ⟨by rfl, ?_⟩) (by assumption) ?_
  rotate_left 1
  · (intro w hSw; first | (go_simp; done) | (go_simp; with_reducible rfl))
  try simp only [Act.put, List.setIfInBounds_toArray, List.set_cons_zero, List.set_cons_succ]
  refine wpAnyH_takeD (i := 1) (d := some 4) rfl rfl (by kernel_rfl) (by kernel_rfl) (by kernel_rfl) (fun _ _ _ h => h) (yieldsIf_load_mid (by rfl) 43 (.tmp 3) rfl (w.heap.size) 5 rfl [.int .i64 rr, .int .i64 rt, .slice RA rn rc, .bool rl, .int .i64 ra] _ (fun w hSw => Blk.range (hSw) 5 (n := ([.int .i64 rr, .int .i64 rt, .slice RA rn rc, .bool rl, .int .i64 ra] : List Value).length) rfl) Try.underlying43 rfl sz_impl_Receiver) (by assumption) ?_
  try simp only [Act.put, List.setIfInBounds_toArray, List.set_cons_zero, List.set_cons_succ]
  refine wpAnyH_takeD (i := 3) (v := ?_) (d := some 6) rfl rfl (by kernel_rfl) (by kernel_rfl) (by kernel_rfl) (fun _ _ _ h => h) (Or.inl ⟨by rfl, ?_⟩) (by assumption) ?_
  rotate_left 1
  · (intro w hSw; first | (go_simp; done) | (go_simp; with_reducible rfl))
  try simp only [Act.put, List.setIfInBounds_toArray, List.set_cons_zero, List.set_cons_succ]
  refine wpAnyH_takeD (i := 4) (d := some 7) rfl rfl (by kernel_rfl) (by kernel_rfl) (by kernel_rfl) (fun _ _ _ h => h) (yieldsIf_load_mid (by rfl) 44 (.tmp 6) rfl (w.heap.size) 10 rfl [.int .i64 sr, .slice SA sn sc, .int .i64 sh, .int .i64 sl] _ (fun w hSw => Blk.range (hSw) 10 (n := ([.int .i64 sr, .slice SA sn sc, .int .i64 sh, .int .i64 sl] : List Value).length) rfl) Try.underlying44 rfl sz_impl_Sender) (by assumption) ?_
  try simp only [Act.put, List.setIfInBounds_toArray, List.set_cons_zero, List.set_cons_succ]
  refine wpAnyH_ready (rs := [2]) (by kernel_rfl) (by simp) ?_
  refine AllReadyH.cons rfl (fun K hK => ?_) AllReadyH.nil
  go_simp
  (with_reducible refine (C1.out _ (hg.below (by repeat (first | (with_reducible exact b_refl _) | (with_reducible refine b_alloc ?_ _) | (with_reducible refine b_drew ?_) | (with_reducible refine b_drewN ?_ _) | (with_reducible refine b_set ?_ ?_ _) | (with_reducible refine b_trans ?_ (by assumption)) | (with_reducible refine b_only ?_ (by assumption) ?_) | omega | (focus (simp; done)) | (focus (simp; omega)))))).mono ?_); rintro e w1 ⟨rfl, hb1⟩
  have F1 := (Blk.drew (Blk.new w 47 #[.int .i64 b, .int .i64 p, .int .i64 s, .int .i64 en, .int .i64 ct, .int .i64 rr, .int .i64 rt, .slice RA rn rc, .bool rl, .int .i64 ra, .int .i64 sr, .slice SA sn sc, .int .i64 sh, .int .i64 sl, .bool ma, .bool mb, .bool mc, .bool md])).below hb1 (Blk.drew (Blk.new w 47 #[.int .i64 b, .int .i64 p, .int .i64 s, .int .i64 en, .int .i64 ct, .int .i64 rr, .int .i64 rt, .slice RA rn rc, .bool rl, .int .i64 ra, .int .i64 sr, .slice SA sn sc, .int .i64 sh, .int .i64 sl, .bool ma, .bool mb, .bool mc, .bool md])).lt
  go_wp2
  refine hK.out _ _ F1 (fun hHeld1 => ?_)
  clear hHeld
  clear hK K
  try simp only [Act.put, List.setIfInBounds_toArray, List.set_cons_zero, List.set_cons_succ]
  refine wpAnyH_ready (rs := [5]) (by kernel_rfl) (by simp) ?_
  refine AllReadyH.cons rfl (fun K hK => ?_) AllReadyH.nil
  go_simp
  (with_reducible refine (C2.out _ (hx.below (by repeat (first | (with_reducible exact b_refl _) | (with_reducible refine b_alloc ?_ _) | (with_reducible refine b_drew ?_) | (with_reducible refine b_drewN ?_ _) | (with_reducible refine b_set ?_ ?_ _) | (with_reducible refine b_trans ?_ (by assumption)) | (with_reducible refine b_only ?_ (by assumption) ?_) | omega | (focus (simp; done)) | (focus (simp; omega)))))).mono ?_); rintro e w2 ⟨rfl, hb2⟩
  have F2 := F1.below hb2 F1.lt
  go_wp2
  refine hK.out _ _ F2 (fun hHeld2 => ?_)
  clear hHeld1
  clear hK K
  try simp only [Act.put, List.setIfInBounds_toArray, List.set_cons_zero, List.set_cons_succ]
  refine wpAnyH_takeD (i := 6) (v := ?_) (d := some 9) rfl rfl (by kernel_rfl) (by kernel_rfl) (by kernel_rfl) (fun _ _ _ h => h) (Or.inl ⟨by rfl, ?_⟩) (by assumption) ?_
  rotate_left 1
  · (intro w hSw; first | (go_simp; done) | (go_simp; with_reducible rfl))
  try simp only [Act.put, List.setIfInBounds_toArray, List.set_cons_zero, List.set_cons_succ]
  refine wpAnyH_takeD (i := 7) (v := ?_) (d := some 2) rfl rfl (by kernel_rfl) (by kernel_rfl) (by kernel_rfl) (fun _ _ _ h => h) (Or.inl ⟨by rfl, ?_⟩) (by assumption) ?_
  rotate_left 1
  · (intro w hSw; first | (go_simp; done) | (go_simp; with_reducible rfl))
  try simp only [Act.put, List.setIfInBounds_toArray, List.set_cons_zero, List.set_cons_succ]
  refine wpAnyH_done (by kernel_rfl) ?_ _
  go_wp2
  go_ret
  exact ⟨ret_int (by rw [IntKind.wrap_i64]; omega), (by repeat (first | (with_reducible exact b_refl _) | (with_reducible refine b_alloc ?_ _) | (with_reducible refine b_drew ?_) | (with_reducible refine b_drewN ?_ _) | (with_reducible refine b_set ?_ ?_ _) | (with_reducible refine b_trans ?_ (by assumption)) | (with_reducible refine b_only ?_ (by assumption) ?_) | omega | (focus (simp; done)) | (focus (simp; omega))))⟩
def PortD.irq (d : PortD) : Int := if d.ok = true then irqAll (recvStatus d.rr d.rt d.gs d.rl d.ra + sendStatus d.sr d.xs d.sh d.sl) (recvReady d.rr d.rt d.gs d.ra) (d.mc || d.md) d.en else 1
theorem spec_PortIrqW (cs : List Value) (d : PortD) (w : World) (h : PortIs w cs d) (hs : d.small) (v : Int) (hv : d.irq = v) :
    Calls Try.prog 89 #[.agg cs.toArray] w fun e w' => e = .returned (.int .i64 v) ∧ Below w.heap.size w w' := by
  subst hv
  have cv := spec_PortValidW cs d
  have hl := Lib.hid h.len
  rw [PortD.irq]
  by_cases k : d.ok = true
  case' neg =>
    have k2 : d.ok = false := by simpa using k
    rw [if_neg k]
    have CV := Lib.hid (fun w h => cv w h hs false k2)
    clear cv k k2
    go_enter Try.func89, Try.ntmps89
    go_wp2_with (first | ((with_reducible refine at_load 47 (.tmp 1) rfl ?_); go_must (refine wpList_loadB (by repeat (first | (with_reducible exact (Blk.new w _ _)) | (with_reducible apply Blk.drew) | (with_reducible apply Blk.drewN) | (with_reducible apply Blk.alloc) | (with_reducible apply Blk.far) | omega | (focus (simp; done)) | (focus (simp; omega)))) 47 (.tmp 1) rfl (by rfl) 0 rfl (cs) (sub_all cs) Try.underlying47 rfl (sz_impl_Port.trans (congrArg some (Eq.symm (hl.out)))) ?_)) | (go_at_call 38; go_must ((with_reducible refine (CV.out _ (h.below (by repeat (first | (with_reducible exact b_refl _) | (with_reducible refine b_alloc ?_ _) | (with_reducible refine b_drew ?_) | (with_reducible refine b_drewN ?_ _) | (with_reducible refine b_set ?_ ?_ _) | (with_reducible refine b_trans ?_ (by assumption)) | (with_reducible refine b_only ?_ (by assumption) ?_) | omega | (focus (simp; done)) | (focus (simp; omega)))))).mono ?_); rintro e w1 ⟨rfl, hb1⟩; have hz1 := hb1.size; (try simp at hz1))))
    go_ret
    exact ⟨rfl, (by repeat (first | (with_reducible exact b_refl _) | (with_reducible refine b_alloc ?_ _) | (with_reducible refine b_drew ?_) | (with_reducible refine b_drewN ?_ _) | (with_reducible refine b_set ?_ ?_ _) | (with_reducible refine b_trans ?_ (by assumption)) | (with_reducible refine b_only ?_ (by assumption) ?_) | omega | (focus (simp; done)) | (focus (simp; omega))))⟩
  rw [if_pos k]
  have CV := Lib.hid (fun w h => cv w h hs true k)
  clear cv k
  have h0 := h
  obtain ⟨b, p, s, en, ct, rr, rt, ra, sr, sh, sl, rl, ma, mb, mc, md, gs, xs⟩ := d
  obtain ⟨RA, SA, rn, sn, rc, sc, rfl, hg, hx⟩ := h
  have hrn : rn ≤ 1048576 := hg.len ▸ hs.1
  have hsn : sn ≤ 1048576 := hx.len ▸ hs.2
  have c1 := fun w h1 h2 => l15Status_any (b := b) (p := p) (s := s) (en := en) (ct := ct) (rr := rr) (rt := rt) (ra := ra) (sr := sr) (sh := sh) (sl := sl) (rl := rl) (ma := ma) (mb := mb) (mc := mc) (md := md) (RA := RA) (SA := SA) (rc := rc) (sc := sc) (gs := gs) (xs := xs) w h1 h2 hrn hsn
  have c2 := fun w h => spec_RecvReady rr rt RA rn rc rl ra gs w h hrn
  have c3 := fun w => spec_ModemChanged ma mb mc md w
  have c4 := fun st rd w => spec_IrqOf st rd en (mc || md) w
  simp only
  generalize recvStatus rr rt gs rl ra + sendStatus sr xs sh sl = st at *
  generalize recvReady rr rt gs ra = rd at *
  generalize (mc || md) = mch at *
  have C1 := Lib.hid c1
  have C2 := Lib.hid c2
  have C3 := Lib.hid c3
  have C4 := Lib.hid c4
  clear c1 c2 c3 c4
  go_enter Try.func89, Try.ntmps89
  go_wp2_with (refine at_load 47 (.tmp 1) rfl ?_; go_must (refine wpList_loadB (Blk.now (Blk.new w _ _) (by repeat (first | (with_reducible exact (Blk.new w _ _)) | (with_reducible refine Blk.drew ?_) | (with_reducible refine Blk.drewN ?_ _) | (with_reducible refine Blk.alloc ?_ _) | (with_reducible refine Blk.far ?_ ?_ _) | omega | (focus (simp; done)) | (focus (simp; omega))))) 47 (.tmp 1) rfl (by rfl) 0 rfl [.int .i64 b, .int .i64 p, .int .i64 s, .int .i64 en, .int .i64 ct, .int .i64 rr, .int .i64 rt, .slice RA rn rc, .bool rl, .int .i64 ra, .int .i64 sr, .slice SA sn sc, .int .i64 sh, .int .i64 sl, .bool ma, .bool mb, .bool mc, .bool md] rfl Try.underlying47 rfl sz_impl_Port ?_))
  go_wp2_with fail
  (with_reducible refine (CV.out _ (h0.below (by repeat (first | (with_reducible exact b_refl _) | (with_reducible refine b_alloc ?_ _) | (with_reducible refine b_drew ?_) | (with_reducible refine b_drewN ?_ _) | (with_reducible refine b_set ?_ ?_ _) | (with_reducible refine b_trans ?_ (by assumption)) | (with_reducible refine b_only ?_ (by assumption) ?_) | omega | (focus (simp; done)) | (focus (simp; omega)))))).mono ?_); rintro e w1 ⟨rfl, hb1⟩; have hz1 := hb1.size; (try simp at hz1); have F1 := (Blk.new w _ _).below hb1 (by first | omega | (simp; done) | (simp; omega)); (try simp only [World.size_alloc, List.setIfInBounds_toArray, List.set_cons_zero, List.set_cons_succ] at F1); have F1l := F1.lt; (try simp only [World.size_alloc] at F1l)
  go_wp2
  refine wp_region_held_drew (S := fun w' => Blk w' w.heap.size 47 #[.int .i64 b, .int .i64 p, .int .i64 s, .int .i64 en, .int .i64 ct, .int .i64 rr, .int .i64 rt, .slice RA rn rc, .bool rl, .int .i64 ra, .int .i64 sr, .slice SA sn sc, .int .i64 sh, .int .i64 sl, .bool ma, .bool mb, .bool mc, .bool md]) (by kernel_rfl) (Blk.drew F1) (fun hHeld => ?_)
  refine wpAnyH_takeD (i := 0) (d := some 6) rfl rfl (by kernel_rfl) (by kernel_rfl) (by kernel_rfl) (fun _ _ _ h => h) (yieldsIf_load_mid (by rfl) 47 (.tmp 1) rfl (w.heap.size) 0 rfl [.int .i64 b, .int .i64 p, .int .i64 s, .int .i64 en, .int .i64 ct, .int .i64 rr, .int .i64 rt, .slice RA rn rc, .bool rl, .int .i64 ra, .int .i64 sr, .slice SA sn sc, .int .i64 sh, .int .i64 sl, .bool ma, .bool mb, .bool mc, .bool md] _ (fun w hSw => Blk.range (hSw) 0 (n := ([.int .i64 b, .int .i64 p, .int .i64 s, .int .i64 en, .int .i64 ct, .int .i64 rr, .int .i64 rt, .slice RA rn rc, .bool rl, .int .i64 ra, .int .i64 sr, .slice SA sn sc, .int .i64 sh, .int .i64 sl, .bool ma, .bool mb, .bool mc, .bool md] : List Value).length) rfl) Try.underlying47 rfl sz_impl_Port) (by assumption) ?_
  try simp only [Act.put, List.setIfInBounds_toArray, List.set_cons_zero, List.set_cons_succ]
  refine wpAnyH_takeD (i := 2) (v := ?_) (d := some 8) rfl rfl (by kernel_rfl) (by kernel_rfl) (by kernel_rfl) (fun _ _ _ h => h) (Or.inl ⟨by rfl, ?_⟩) (by assumption) ?_
  rotate_left 1
  · (intro w hSw; first | (go_simp; done) | (go_simp; with_reducible rfl))
  try simp only [Act.put, List.setIfInBounds_toArray, List.set_cons_zero, List.set_cons_succ]
  refine wpAnyH_takeD (i := 3) (d := some 9) rfl rfl (by kernel_rfl) (by kernel_rfl) (by kernel_rfl) (fun _ _ _ h => h) (yieldsIf_load_mid (by rfl) 43 (.tmp 8) rfl (w.heap.size) 5 rfl [.int .i64 rr, .int .i64 rt, .slice RA rn rc, .bool rl, .int .i64 ra] _ (fun w hSw => Blk.range (hSw) 5 (n := ([.int .i64 rr, .int .i64 rt, .slice RA rn rc, .bool rl, .int .i64 ra] : List Value).length) rfl) Try.underlying43 rfl sz_impl_Receiver) (by assumption) ?_
  try simp only [Act.put, List.setIfInBounds_toArray, List.set_cons_zero, List.set_cons_succ]
  refine wpAnyH_takeD (i := 5) (v := ?_) (d := some 11) rfl rfl (by kernel_rfl) (by kernel_rfl) (by kernel_rfl) (fun _ _ _ h => h) (Or.inl ⟨by rfl, ?_⟩) (by assumption) ?_
  rotate_left 1
  · (intro w hSw; first | (go_simp; done) | (go_simp; with_reducible rfl))
  try simp only [Act.put, List.setIfInBounds_toArray, List.set_cons_zero, List.set_cons_succ]
  refine wpAnyH_takeD (i := 6) (d := some 12) rfl rfl (by kernel_rfl) (by kernel_rfl) (by kernel_rfl) (fun _ _ _ h => h) (yieldsIf_load_mid (by rfl) 45 (.tmp 11) rfl (w.heap.size) 14 rfl [.bool ma, .bool mb, .bool mc, .bool md] _ (fun w hSw => Blk.range (hSw) 14 (n := ([.bool ma, .bool mb, .bool mc, .bool md] : List Value).length) rfl) Try.underlying45 rfl sz_impl_Modem) (by assumption) ?_
  try simp only [Act.put, List.setIfInBounds_toArray, List.set_cons_zero, List.set_cons_succ]
  refine wpAnyH_takeD (i := 8) (v := ?_) (d := some 14) rfl rfl (by kernel_rfl) (by kernel_rfl) (by kernel_rfl) (fun _ _ _ h => h) (Or.inl ⟨by rfl, ?_⟩) (by assumption) ?_
  rotate_left 1
  · (intro w hSw; first | (go_simp; done) | (go_simp; with_reducible rfl))
  try simp only [Act.put, List.setIfInBounds_toArray, List.set_cons_zero, List.set_cons_succ]
  refine wpAnyH_takeD (i := 9) (v := ?_) (d := some 15) rfl rfl (by kernel_rfl) (by kernel_rfl) (by kernel_rfl) (fun _ _ _ h => h) (Or.inl ⟨by rfl, ?_⟩) (by assumption) ?_
  rotate_left 1
  · (intro w hSw; have hc := hSw.cellv 3 rfl; first | (go_simp; done) | (go_simp; with_reducible rfl))
  try simp only [Act.put, List.setIfInBounds_toArray, List.set_cons_zero, List.set_cons_succ]
  refine wpAnyH_ready (rs := [1]) (by kernel_rfl) (by simp) ?_
  refine AllReadyH.cons rfl (fun K hK => ?_) AllReadyH.nil
  go_simp
  (with_reducible refine (C1.out _ (hg.below (by repeat (first | (with_reducible exact b_refl _) | (with_reducible refine b_alloc ?_ _) | (with_reducible refine b_drew ?_) | (with_reducible refine b_drewN ?_ _) | (with_reducible refine b_set ?_ ?_ _) | (with_reducible refine b_trans ?_ (by assumption)) | (with_reducible refine b_only ?_ (by assumption) ?_) | omega | (focus (simp; done)) | (focus (simp; omega))))) (hx.below (by repeat (first | (with_reducible exact b_refl _) | (with_reducible refine b_alloc ?_ _) | (with_reducible refine b_drew ?_) | (with_reducible refine b_drewN ?_ _) | (with_reducible refine b_set ?_ ?_ _) | (with_reducible refine b_trans ?_ (by assumption)) | (with_reducible refine b_only ?_ (by assumption) ?_) | omega | (focus (simp; done)) | (focus (simp; omega)))))).mono ?_); rintro e w11 ⟨rfl, hb11⟩
  have G110 := (Blk.drew F1).below hb11 (Blk.drew F1).lt
  go_wp2
  refine hK.out _ _ G110 (fun hHeld11 => ?_)
  clear hK K
  try simp only [Act.put, List.setIfInBounds_toArray, List.set_cons_zero, List.set_cons_succ]
  refine wpAnyH_ready (rs := [4]) (by kernel_rfl) (by simp) ?_
  refine AllReadyH.cons rfl (fun K hK => ?_) AllReadyH.nil
  go_simp
  (with_reducible refine (C2.out _ (hg.below (by repeat (first | (with_reducible exact b_refl _) | (with_reducible refine b_alloc ?_ _) | (with_reducible refine b_drew ?_) | (with_reducible refine b_drewN ?_ _) | (with_reducible refine b_set ?_ ?_ _) | (with_reducible refine b_trans ?_ (by assumption)) | (with_reducible refine b_only ?_ (by assumption) ?_) | omega | (focus (simp; done)) | (focus (simp; omega)))))).mono ?_); rintro e w12 ⟨rfl, hb12⟩
  have G120 := (G110).below hb12 (G110).lt
  go_wp2
  refine hK.out _ _ G120 (fun hHeld12 => ?_)
  clear hK K
  try simp only [Act.put, List.setIfInBounds_toArray, List.set_cons_zero, List.set_cons_succ]
  refine wpAnyH_ready (rs := [7]) (by kernel_rfl) (by simp) ?_
  refine AllReadyH.cons rfl (fun K hK => ?_) AllReadyH.nil
  go_simp
  (with_reducible refine (C3.out _).mono ?_); rintro e w13 ⟨rfl, hb13⟩
  have G130 := (G120).below hb13 (G120).lt
  go_wp2
  refine hK.out _ _ G130 (fun hHeld13 => ?_)
  clear hK K
  try simp only [Act.put, List.setIfInBounds_toArray, List.set_cons_zero, List.set_cons_succ]
  refine wpAnyH_ready (rs := [10]) (by kernel_rfl) (by simp) ?_
  refine AllReadyH.cons rfl (fun K hK => ?_) AllReadyH.nil
  go_simp
  (with_reducible refine (C4.out _ _ _).mono ?_); rintro e w14 ⟨rfl, hb14⟩
  have G140 := (G130).below hb14 (G130).lt
  go_wp2
  refine hK.out _ _ G140 (fun hHeld14 => ?_)
  clear hK K
  try simp only [Act.put, List.setIfInBounds_toArray, List.set_cons_zero, List.set_cons_succ]
  refine wpAnyH_takeD (i := 11) (v := ?_) (d := some 2) rfl rfl (by kernel_rfl) (by kernel_rfl) (by kernel_rfl) (fun _ _ _ h => h) (Or.inl ⟨by rfl, ?_⟩) (by assumption) ?_
  rotate_left 1
  · (intro w hSw; first | (go_simp; done) | (go_simp; with_reducible rfl))
  try simp only [Act.put, List.setIfInBounds_toArray, List.set_cons_zero, List.set_cons_succ]
  refine wpAnyH_done (by kernel_rfl) ?_ _
  go_wp2
  go_ret
  exact ⟨rfl, (by repeat (first | (with_reducible exact b_refl _) | (with_reducible refine b_alloc ?_ _) | (with_reducible refine b_drew ?_) | (with_reducible refine b_drewN ?_ _) | (with_reducible refine b_set ?_ ?_ _) | (with_reducible refine b_trans ?_ (by assumption)) | (with_reducible refine b_only ?_ (by assumption) ?_) | omega | (focus (simp; done)) | (focus (simp; omega))))⟩
end Go.Proofs.Ytdnjdbafffifeaa
