/-
  IrqOf AT ALL ARGUMENTS (the program's and the reference's), IrqRank, IrqBit of what it returns.
-/
import Derived.Test.YtflimlalccmdnaaIrq
set_option linter.unusedVariables false
set_option linter.unusedSimpArgs false
namespace Go.Proofs.Ytflimlalccmdnaa
open Go.ChangeShapes Go.WideShapes Go.ChangeAt Go.RowKit

def bt (n b : Int) : Bool := n / b % 2 == 1
def irqValid (st rd en : Int) : Bool := in_ st 0 127 && in_ rd 0 2 && in_ en 0 15
def irqAll (st rd : Int) (md : Bool) (en : Int) : Int := if irqValid st rd en = true then irqN (bt en 4 && decide (2 ≤ st % 16)) (bt en 1 && rd == 1) (bt en 1 && rd == 2) (bt en 2 && bt st 32) (bt en 8 && md) else 1
theorem and_en_1 (en : Int) (h0 : 0 ≤ en) (h1 : en ≤ 15) : (bits .and .i64 en 1 != 0) = bt en 1 := by
  obtain ⟨m, rfl⟩ := Int.eq_ofNat_of_zero_le h0
  have hm : m < 16 := by omega
  rw [show (1 : Int) = ((1 : Nat) : Int) from rfl, i64_and_nat m 1 (by omega) (by omega)]
  have : ∀ k : Fin 16, (((k.val &&& 1 : Nat) : Int) != 0) = bt (k.val : Int) ((1 : Nat) : Int) := by decide
  exact this ⟨m, hm⟩
theorem and_en_2 (en : Int) (h0 : 0 ≤ en) (h1 : en ≤ 15) : (bits .and .i64 en 2 != 0) = bt en 2 := by
  obtain ⟨m, rfl⟩ := Int.eq_ofNat_of_zero_le h0
  have hm : m < 16 := by omega
  rw [show (2 : Int) = ((2 : Nat) : Int) from rfl, i64_and_nat m 2 (by omega) (by omega)]
  have : ∀ k : Fin 16, (((k.val &&& 2 : Nat) : Int) != 0) = bt (k.val : Int) ((2 : Nat) : Int) := by decide
  exact this ⟨m, hm⟩
theorem and_en_4 (en : Int) (h0 : 0 ≤ en) (h1 : en ≤ 15) : (bits .and .i64 en 4 != 0) = bt en 4 := by
  obtain ⟨m, rfl⟩ := Int.eq_ofNat_of_zero_le h0
  have hm : m < 16 := by omega
  rw [show (4 : Int) = ((4 : Nat) : Int) from rfl, i64_and_nat m 4 (by omega) (by omega)]
  have : ∀ k : Fin 16, (((k.val &&& 4 : Nat) : Int) != 0) = bt (k.val : Int) ((4 : Nat) : Int) := by decide
  exact this ⟨m, hm⟩
theorem and_en_8 (en : Int) (h0 : 0 ≤ en) (h1 : en ≤ 15) : (bits .and .i64 en 8 != 0) = bt en 8 := by
  obtain ⟨m, rfl⟩ := Int.eq_ofNat_of_zero_le h0
  have hm : m < 16 := by omega
  rw [show (8 : Int) = ((8 : Nat) : Int) from rfl, i64_and_nat m 8 (by omega) (by omega)]
  have : ∀ k : Fin 16, (((k.val &&& 8 : Nat) : Int) != 0) = bt (k.val : Int) ((8 : Nat) : Int) := by decide
  exact this ⟨m, hm⟩
theorem and_st_14 (st : Int) (h0 : 0 ≤ st) (h1 : st ≤ 127) : (bits .and .i64 st 14 != 0) = decide (2 ≤ st % 16) := by
  obtain ⟨m, rfl⟩ := Int.eq_ofNat_of_zero_le h0
  have hm : m < 128 := by omega
  rw [show (14 : Int) = ((14 : Nat) : Int) from rfl, i64_and_nat m 14 (by omega) (by omega)]
  have : ∀ k : Fin 128, (((k.val &&& 14 : Nat) : Int) != 0) = decide (2 ≤ (k.val : Int) % 16) := by decide +kernel
  exact this ⟨m, hm⟩
theorem and_st_32 (st : Int) (h0 : 0 ≤ st) (h1 : st ≤ 127) : (bits .and .i64 st 32 != 0) = bt st 32 := by
  obtain ⟨m, rfl⟩ := Int.eq_ofNat_of_zero_le h0
  have hm : m < 128 := by omega
  rw [show (32 : Int) = ((32 : Nat) : Int) from rfl, i64_and_nat m 32 (by omega) (by omega)]
  have : ∀ k : Fin 128, (((k.val &&& 32 : Nat) : Int) != 0) = bt (k.val : Int) ((32 : Nat) : Int) := by decide +kernel
  exact this ⟨m, hm⟩
set_option maxHeartbeats 2000000 in
theorem impl_IrqOf (st rd en : Int) (md : Bool) (w : World) : Calls Try.prog 14 #[.int .i64 st, .int .i64 rd, .bool md, .int .i64 en] w fun e w' => e = .returned (.int .i64 (irqAll st rd md en)) ∧ Below w.heap.size w w' := by
  by_cases c0 : st < 0
  · have hv : irqAll st rd md en = 1 := by
      have : irqValid st rd en = false := by
        rw [← Bool.not_eq_true]
        simp only [irqValid, in_, Bool.and_eq_true, decide_eq_true_eq]
        omega
      simp [irqAll, this]
    rw [hv]
    clear hv
    go_enter Try.func14, Try.ntmps14
    go_wp2
    go_ret
    exact ⟨rfl, (by repeat (first | (with_reducible exact b_refl _) | (with_reducible refine b_alloc ?_ _) | (with_reducible refine b_drew ?_) | (with_reducible refine b_drewN ?_ _) | (with_reducible refine b_set ?_ ?_ _) | (with_reducible refine b_trans ?_ (by assumption)) | (with_reducible refine b_only ?_ (by assumption) ?_) | omega | (focus (simp; done)) | (focus (simp; omega))))⟩
  by_cases c1 : 127 < st
  · have hv : irqAll st rd md en = 1 := by
      have : irqValid st rd en = false := by
        rw [← Bool.not_eq_true]
        simp only [irqValid, in_, Bool.and_eq_true, decide_eq_true_eq]
        omega
      simp [irqAll, this]
    rw [hv]
    clear hv
    go_enter Try.func14, Try.ntmps14
    go_wp2
    go_ret
    exact ⟨rfl, (by repeat (first | (with_reducible exact b_refl _) | (with_reducible refine b_alloc ?_ _) | (with_reducible refine b_drew ?_) | (with_reducible refine b_drewN ?_ _) | (with_reducible refine b_set ?_ ?_ _) | (with_reducible refine b_trans ?_ (by assumption)) | (with_reducible refine b_only ?_ (by assumption) ?_) | omega | (focus (simp; done)) | (focus (simp; omega))))⟩
  by_cases c2 : rd < 0
  · have hv : irqAll st rd md en = 1 := by
      have : irqValid st rd en = false := by
        rw [← Bool.not_eq_true]
        simp only [irqValid, in_, Bool.and_eq_true, decide_eq_true_eq]
        omega
      simp [irqAll, this]
    rw [hv]
    clear hv
    go_enter Try.func14, Try.ntmps14
    go_wp2
    go_ret
    exact ⟨rfl, (by repeat (first | (with_reducible exact b_refl _) | (with_reducible refine b_alloc ?_ _) | (with_reducible refine b_drew ?_) | (with_reducible refine b_drewN ?_ _) | (with_reducible refine b_set ?_ ?_ _) | (with_reducible refine b_trans ?_ (by assumption)) | (with_reducible refine b_only ?_ (by assumption) ?_) | omega | (focus (simp; done)) | (focus (simp; omega))))⟩
  by_cases c3 : 2 < rd
  · have hv : irqAll st rd md en = 1 := by
      have : irqValid st rd en = false := by
        rw [← Bool.not_eq_true]
        simp only [irqValid, in_, Bool.and_eq_true, decide_eq_true_eq]
        omega
      simp [irqAll, this]
    rw [hv]
    clear hv
    go_enter Try.func14, Try.ntmps14
    go_wp2
    go_ret
    exact ⟨rfl, (by repeat (first | (with_reducible exact b_refl _) | (with_reducible refine b_alloc ?_ _) | (with_reducible refine b_drew ?_) | (with_reducible refine b_drewN ?_ _) | (with_reducible refine b_set ?_ ?_ _) | (with_reducible refine b_trans ?_ (by assumption)) | (with_reducible refine b_only ?_ (by assumption) ?_) | omega | (focus (simp; done)) | (focus (simp; omega))))⟩
  by_cases c4 : en < 0
  · have hv : irqAll st rd md en = 1 := by
      have : irqValid st rd en = false := by
        rw [← Bool.not_eq_true]
        simp only [irqValid, in_, Bool.and_eq_true, decide_eq_true_eq]
        omega
      simp [irqAll, this]
    rw [hv]
    clear hv
    go_enter Try.func14, Try.ntmps14
    go_wp2
    go_ret
    exact ⟨rfl, (by repeat (first | (with_reducible exact b_refl _) | (with_reducible refine b_alloc ?_ _) | (with_reducible refine b_drew ?_) | (with_reducible refine b_drewN ?_ _) | (with_reducible refine b_set ?_ ?_ _) | (with_reducible refine b_trans ?_ (by assumption)) | (with_reducible refine b_only ?_ (by assumption) ?_) | omega | (focus (simp; done)) | (focus (simp; omega))))⟩
  by_cases c5 : 15 < en
  · have hv : irqAll st rd md en = 1 := by
      have : irqValid st rd en = false := by
        rw [← Bool.not_eq_true]
        simp only [irqValid, in_, Bool.and_eq_true, decide_eq_true_eq]
        omega
      simp [irqAll, this]
    rw [hv]
    clear hv
    go_enter Try.func14, Try.ntmps14
    go_wp2
    go_ret
    exact ⟨rfl, (by repeat (first | (with_reducible exact b_refl _) | (with_reducible refine b_alloc ?_ _) | (with_reducible refine b_drew ?_) | (with_reducible refine b_drewN ?_ _) | (with_reducible refine b_set ?_ ?_ _) | (with_reducible refine b_trans ?_ (by assumption)) | (with_reducible refine b_only ?_ (by assumption) ?_) | omega | (focus (simp; done)) | (focus (simp; omega))))⟩
  have hv : irqValid st rd en = true := by simp [irqValid, in_]; omega
  refine (impl_IrqOf_in st rd en md _ _ _ _ _ _ _ _ w (by omega) (by omega) (by omega) (by omega) (by omega) (by omega) (and_en_4 en (by omega) (by omega)) (and_en_1 en (by omega) (by omega)) (and_en_2 en (by omega) (by omega)) (and_en_8 en (by omega) (by omega)) (and_st_14 st (by omega) (by omega)) (and_st_32 st (by omega) (by omega)) rfl rfl).mono ?_
  rintro e w' ⟨rfl, hb⟩
  exact ⟨ret_int (by rw [irqAll, if_pos hv]), hb⟩
theorem l13_1 (n : Int) (w : World) (h0 : 0 ≤ n) (h1 : n ≤ 127) : Calls Try.prog 45 #[.int .i64 n, .int .i64 1] w fun e w' => e = .returned (.bool (bt n 1)) ∧ w = w' := by
  go_enter Try.func45, Try.ntmps45
  go_wp2
  go_ret
  exact ⟨ret_bool (by simp [bt]), rfl⟩
theorem l13_2 (n : Int) (w : World) (h0 : 0 ≤ n) (h1 : n ≤ 127) : Calls Try.prog 45 #[.int .i64 n, .int .i64 2] w fun e w' => e = .returned (.bool (bt n 2)) ∧ w = w' := by
  go_enter Try.func45, Try.ntmps45
  go_wp2
  go_ret
  exact ⟨ret_bool (by simp [bt]), rfl⟩
theorem l13_4 (n : Int) (w : World) (h0 : 0 ≤ n) (h1 : n ≤ 127) : Calls Try.prog 45 #[.int .i64 n, .int .i64 4] w fun e w' => e = .returned (.bool (bt n 4)) ∧ w = w' := by
  go_enter Try.func45, Try.ntmps45
  go_wp2
  go_ret
  exact ⟨ret_bool (by simp [bt]), rfl⟩
theorem l13_8 (n : Int) (w : World) (h0 : 0 ≤ n) (h1 : n ≤ 127) : Calls Try.prog 45 #[.int .i64 n, .int .i64 8] w fun e w' => e = .returned (.bool (bt n 8)) ∧ w = w' := by
  go_enter Try.func45, Try.ntmps45
  go_wp2
  go_ret
  exact ⟨ret_bool (by simp [bt]), rfl⟩
theorem l13_32 (n : Int) (w : World) (h0 : 0 ≤ n) (h1 : n ≤ 127) : Calls Try.prog 45 #[.int .i64 n, .int .i64 32] w fun e w' => e = .returned (.bool (bt n 32)) ∧ w = w' := by
  go_enter Try.func45, Try.ntmps45
  go_wp2
  go_ret
  exact ⟨ret_bool (by simp [bt]), rfl⟩
set_option maxHeartbeats 4000000 in
theorem spec_IrqOf (st rd en : Int) (md : Bool) (w : World) : Calls Try.prog 15 #[.int .i64 st, .int .i64 rd, .bool md, .int .i64 en] w fun e w' => e = .returned (.int .i64 (irqAll st rd md en)) ∧ Below w.heap.size w w' := by
  rw [irqAll, irqValid]
  by_cases v1 : in_ st 0 127 = true
  case' neg =>
    have z1 : in_ st 0 127 = false := by simpa using v1
    rw [z1]
    go_enter Try.func15, Try.ntmps15
    go_wp2_with (go_at_call 44; refine (l6In_any _ _ _ _).mono ?_; rintro e w' ⟨rfl, rfl⟩)
    go_ret
    exact ⟨rfl, (by repeat (first | (with_reducible exact b_refl _) | (with_reducible refine b_alloc ?_ _) | (with_reducible refine b_drew ?_) | (with_reducible refine b_drewN ?_ _) | (with_reducible refine b_set ?_ ?_ _) | (with_reducible refine b_trans ?_ (by assumption)) | (with_reducible refine b_only ?_ (by assumption) ?_) | omega | (focus (simp; done)) | (focus (simp; omega))))⟩
  by_cases v2 : in_ rd 0 2 = true
  case' neg =>
    have z2 : in_ rd 0 2 = false := by simpa using v2
    rw [v1, z2]
    go_enter Try.func15, Try.ntmps15
    go_wp2_with (go_at_call 44; refine (l6In_any _ _ _ _).mono ?_; rintro e w' ⟨rfl, rfl⟩)
    go_ret
    exact ⟨rfl, (by repeat (first | (with_reducible exact b_refl _) | (with_reducible refine b_alloc ?_ _) | (with_reducible refine b_drew ?_) | (with_reducible refine b_drewN ?_ _) | (with_reducible refine b_set ?_ ?_ _) | (with_reducible refine b_trans ?_ (by assumption)) | (with_reducible refine b_only ?_ (by assumption) ?_) | omega | (focus (simp; done)) | (focus (simp; omega))))⟩
  by_cases v3 : in_ en 0 15 = true
  case' neg =>
    have z3 : in_ en 0 15 = false := by simpa using v3
    rw [v1, v2, z3]
    go_enter Try.func15, Try.ntmps15
    go_wp2_with (go_at_call 44; refine (l6In_any _ _ _ _).mono ?_; rintro e w' ⟨rfl, rfl⟩)
    go_ret
    exact ⟨rfl, (by repeat (first | (with_reducible exact b_refl _) | (with_reducible refine b_alloc ?_ _) | (with_reducible refine b_drew ?_) | (with_reducible refine b_drewN ?_ _) | (with_reducible refine b_set ?_ ?_ _) | (with_reducible refine b_trans ?_ (by assumption)) | (with_reducible refine b_only ?_ (by assumption) ?_) | omega | (focus (simp; done)) | (focus (simp; omega))))⟩
  rw [v1, v2, v3, if_pos (by rfl)]
  have a1 : 0 ≤ st ∧ st ≤ 127 := by simpa [in_] using v1
  have a3 : 0 ≤ en ∧ en ≤ 15 := by simpa [in_] using v3
  obtain ⟨a1, a2⟩ := a1
  obtain ⟨a3, a4⟩ := a3
  go_enter Try.func15, Try.ntmps15
  go_wp2_with (first | (go_at_call 44; refine (l6In_any _ _ _ _).mono ?_; rintro e w' ⟨rfl, rfl⟩) | (go_at_call_of 45 (Value.int IntKind.i64 4); refine (l13_4 _ _ (by omega) (by omega)).mono ?_; rintro e w' ⟨rfl, rfl⟩) | (go_at_call_of 45 (Value.int IntKind.i64 1); refine (l13_1 _ _ (by omega) (by omega)).mono ?_; rintro e w' ⟨rfl, rfl⟩) | (go_at_call_of 45 (Value.int IntKind.i64 2); refine (l13_2 _ _ (by omega) (by omega)).mono ?_; rintro e w' ⟨rfl, rfl⟩) | (go_at_call_of 45 (Value.int IntKind.i64 32); refine (l13_32 _ _ (by omega) (by omega)).mono ?_; rintro e w' ⟨rfl, rfl⟩) | (go_at_call_of 45 (Value.int IntKind.i64 8); refine (l13_8 _ _ (by omega) (by omega)).mono ?_; rintro e w' ⟨rfl, rfl⟩))
  all_goals
    go_ret
    refine ⟨ret_int ?_, (by repeat (first | (with_reducible exact b_refl _) | (with_reducible refine b_alloc ?_ _) | (with_reducible refine b_drew ?_) | (with_reducible refine b_drewN ?_ _) | (with_reducible refine b_set ?_ ?_ _) | (with_reducible refine b_trans ?_ (by assumption)) | (with_reducible refine b_only ?_ (by assumption) ?_) | omega | (focus (simp; done)) | (focus (simp; omega))))⟩
    clear v1 v2 v3 a1 a2 a3 a4
    simp_all [irqN]
    try omega
end Go.Proofs.Ytflimlalccmdnaa
