/-
  RATES: what the divisors' methods, RateOf, DivisorFor, RatesAgree, FormatValid and FrameLength (the program's and the reference's) return.
-/
import Derived.Test.YtdlomcbnnaafbaaRead
set_option linter.unusedVariables false
set_option linter.unusedSimpArgs false
namespace Go.Proofs.Ytdlomcbnnaafbaa
open Go.ChangeShapes Go.WideShapes Go.ChangeAt Go.RowKit

def divOk (d : Int) : Bool := in_ d 1 2304
def rateOf (d : Int) : Int := if divOk d = true then 115200 / d else -1
theorem divOk_iff {d : Int} : divOk d = true ↔ 1 ≤ d ∧ d ≤ 2304 := by simp [divOk, in_]
theorem spec_RateOf (d : Int) (w : World) : Calls Try.prog 10 #[.int .i64 d] w fun e w' => e = .returned (.int .i64 (rateOf d)) ∧ w = w' := by
  by_cases h : divOk d = true
  · have hd := divOk_iff.1 h
    have hin : in_ d 1 2304 = true := h
    rw [rateOf, if_pos h]
    go_enter Try.func10, Try.ntmps10
    go_wp2_with (go_at_call 20; refine (l6In_any _ _ _ _).mono ?_; rintro e w' ⟨rfl, rfl⟩)
    go_ret
    exact ⟨rfl, rfl⟩
  · have hin : in_ d 1 2304 = false := by simpa [divOk] using h
    rw [rateOf, if_neg h]
    go_enter Try.func10, Try.ntmps10
    go_wp2_with (go_at_call 20; refine (l6In_any _ _ _ _).mono ?_; rintro e w' ⟨rfl, rfl⟩)
    go_ret
    exact ⟨rfl, rfl⟩
theorem valid_any (d : Int) (w : World) : Calls Try.prog 21 #[.int .i64 d] w fun e w' => e = .returned (.bool (divOk d)) ∧ w = w' := by
  go_enter Try.func21, Try.ntmps21
  go_wp2
  all_goals
    go_ret
    exact ⟨ret_bool (by simp [divOk, in_]; omega), rfl⟩
theorem rate_any (d : Int) (w : World) (h : 1 ≤ d) : Calls Try.prog 22 #[.int .i64 d] w fun e w' => e = .returned (.int .i64 (115200 / d)) ∧ w = w' := by
  go_enter Try.func22, Try.ntmps22
  go_wp2
  go_ret
  exact ⟨rfl, rfl⟩
theorem impl_RateOf (d : Int) (w : World) : Calls Try.prog 11 #[.int .i64 d] w fun e w' => e = .returned (.int .i64 (rateOf d)) ∧ w = w' := by
  by_cases h : divOk d = true
  · have hd := divOk_iff.1 h
    rw [rateOf, if_pos h]
    go_enter Try.func11, Try.ntmps11
    go_wp2_with (first | (go_at_call 21; refine (valid_any _ _).mono ?_; rintro e w' ⟨rfl, rfl⟩) | (go_at_call 22; refine (rate_any _ _ hd.1).mono ?_; rintro e w' ⟨rfl, rfl⟩))
    go_ret
    exact ⟨rfl, rfl⟩
  · have h2 : divOk d = false := by simpa using h
    rw [rateOf, if_neg h]
    go_enter Try.func11, Try.ntmps11
    go_wp2_with (go_at_call 21; refine (valid_any _ _).mono ?_; rintro e w' ⟨rfl, rfl⟩)
    go_ret
    exact ⟨rfl, rfl⟩
def fmtOk (b p s : Int) : Bool := in_ b 5 8 && in_ p 0 2 && in_ s 1 2
theorem fmtOk_iff {b p s : Int} : fmtOk b p s = true ↔ 5 ≤ b ∧ b ≤ 8 ∧ 0 ≤ p ∧ p ≤ 2 ∧ 1 ≤ s ∧ s ≤ 2 := by
  simp [fmtOk, in_]; omega
def fLen (b p s : Int) : Int := 1 + b + s + (if p = 0 then 0 else 1)
theorem spec_FormatValid (b p s : Int) (w : World) : Calls Try.prog 25 #[.agg #[.int .i64 b, .int .i64 p, .int .i64 s]] w fun e w' => e = .returned (.bool (fmtOk b p s)) ∧ Below w.heap.size w w' := by
  go_enter Try.func25, Try.ntmps25
  go_wp2_with (go_at_call 20; refine (l6In_any _ _ _ _).mono ?_; rintro e w' ⟨rfl, rfl⟩)
  all_goals
    go_ret
    refine ⟨ret_bool ?_, (by repeat (first | (with_reducible exact b_refl _) | (with_reducible refine b_alloc ?_ _) | (with_reducible refine b_drew ?_) | (with_reducible refine b_drewN ?_ _) | (with_reducible refine b_set ?_ ?_ _) | (with_reducible refine b_trans ?_ (by assumption)) | (with_reducible refine b_only ?_ (by assumption) ?_) | omega | (focus (simp; done)) | (focus (simp; omega))))⟩
    simp_all [fmtOk]
theorem impl_FormatValid (b p s : Int) (w : World) : Calls Try.prog 27 #[.agg #[.int .i64 b, .int .i64 p, .int .i64 s]] w fun e w' => e = .returned (.bool (fmtOk b p s)) ∧ Below w.heap.size w w' := by
  go_enter Try.func27, Try.ntmps27
  go_wp2
  all_goals
    go_ret
    refine ⟨ret_bool ?_, (by repeat (first | (with_reducible exact b_refl _) | (with_reducible refine b_alloc ?_ _) | (with_reducible refine b_drew ?_) | (with_reducible refine b_drewN ?_ _) | (with_reducible refine b_set ?_ ?_ _) | (with_reducible refine b_trans ?_ (by assumption)) | (with_reducible refine b_only ?_ (by assumption) ?_) | omega | (focus (simp; done)) | (focus (simp; omega))))⟩
    simp_all [fmtOk, in_]
    try omega
end Go.Proofs.Ytdlomcbnnaafbaa
