/-
  FLOW: what FlowValid, FlowNext (the program's and the reference's), toFlow and the draws of flows return.
-/
import Derived.Test.YtgnoceofabkfcaaRead
set_option linter.unusedVariables false
set_option linter.unusedSimpArgs false
namespace Go.Proofs.Ytgnoceofabkfcaa
open Go.ChangeShapes Go.WideShapes Go.ChangeAt Go.RowKit

def in_ (n a b : Int) : Bool := decide (a ≤ n) && decide (n ≤ b)
theorem l6In_any (n a b : Int) (w : World) : Calls Try.prog 29 #[.int .i64 n, .int .i64 a, .int .i64 b] w fun e w' => e = .returned (.bool (in_ n a b)) ∧ w = w' := by
  go_enter Try.func29, Try.ntmps29
  go_wp2
  all_goals
    go_ret
    exact ⟨ret_bool (by simp [in_]; omega), rfl⟩
/-- Are these limits valid? -/
def flowOk (h l : Int) : Bool := decide (0 ≤ l) && decide (l < h) && decide (h ≤ 32)
/-- Are bytes wanted? -/
def flowNext (h l c : Int) (wt : Bool) : Bool := if flowOk h l = true then (if h ≤ c then false else if c ≤ l then true else wt) else false
section
variable {h l c : Int} {wt : Bool}
theorem flowNext_1 (a : flowOk h l = false) : false = flowNext h l c wt := by simp [flowNext, a]
theorem flowNext_2 (a : flowOk h l = true) (b : h ≤ c) : false = flowNext h l c wt := by simp [flowNext, a, b]
theorem flowNext_3 (a : flowOk h l = true) (b : c < h) (d : c ≤ l) : true = flowNext h l c wt := by rw [flowNext, if_pos a, if_neg (by omega), if_pos d]
theorem flowNext_4 (a : flowOk h l = true) (b : c < h) (d : l < c) : wt = flowNext h l c wt := by rw [flowNext, if_pos a, if_neg (by omega), if_neg (by omega)]
theorem flow_more {d : Int} (a : flowOk h l = true) (e : flowNext h l c wt = false) (hd : 0 ≤ d) : flowNext h l (c + 1 + d) wt = false := by
  simp only [flowNext, a, if_true] at e ⊢
  by_cases h1 : h ≤ c + 1 + d
  · rw [if_pos h1]
  · have h2 : ¬ h ≤ c := by omega
    rw [if_neg h2] at e
    rw [if_neg h1]
    by_cases h3 : c ≤ l
    · rw [if_pos h3] at e
      cases e
    · rw [if_neg h3] at e
      rw [if_neg (by omega)]
      exact e
theorem flow_twice : flowNext h l c (flowNext h l c wt) = flowNext h l c wt := by
  unfold flowNext
  repeat' (first | split | (simp_all; done) | (simp_all; omega))
theorem flow_part (a : flowOk h l = true) : flowOk l l = false ∧ flowOk l h = false := by
  simp only [flowOk, Bool.and_eq_true, decide_eq_true_eq] at a
  constructor <;> simp [flowOk] <;> omega
end
theorem spec_FlowValid (h l : Int) (w : World) : Calls Try.prog 12 #[.agg #[.int .i64 h, .int .i64 l]] w fun e w' => e = .returned (.bool (flowOk h l)) ∧ Below w.heap.size w w' := by
  go_enter Try.func12, Try.ntmps12
  go_wp2_with (go_at_call 29; refine (l6In_any _ _ _ _).mono ?_; rintro e w' ⟨rfl, rfl⟩)
  all_goals
    go_ret
    refine ⟨ret_bool ?_, (by repeat (first | (with_reducible exact b_refl _) | (with_reducible refine b_alloc ?_ _) | (with_reducible refine b_drew ?_) | (with_reducible refine b_drewN ?_ _) | (with_reducible refine b_set ?_ ?_ _) | (with_reducible refine b_trans ?_ (by assumption)) | (with_reducible refine b_only ?_ (by assumption) ?_) | omega | (focus (simp; done)) | (focus (simp; omega))))⟩
    simp_all [in_, flowOk]
    try omega
theorem impl_FlowValid (h l : Int) (w : World) : Calls Try.prog 14 #[.agg #[.int .i64 h, .int .i64 l]] w fun e w' => e = .returned (.bool (flowOk h l)) ∧ Below w.heap.size w w' := by
  go_enter Try.func14, Try.ntmps14
  go_wp2
  all_goals
    go_ret
    refine ⟨ret_bool ?_, (by repeat (first | (with_reducible exact b_refl _) | (with_reducible refine b_alloc ?_ _) | (with_reducible refine b_drew ?_) | (with_reducible refine b_drewN ?_ _) | (with_reducible refine b_set ?_ ?_ _) | (with_reducible refine b_trans ?_ (by assumption)) | (with_reducible refine b_only ?_ (by assumption) ?_) | omega | (focus (simp; done)) | (focus (simp; omega))))⟩
    simp_all [flowOk]
    try omega
theorem toFlow_any (h l : Int) (w : World) : Calls Try.prog 13 #[.agg #[.int .i64 h, .int .i64 l]] w fun e w' => e = .returned (.agg #[.int .i64 h, .int .i64 l]) ∧ Below w.heap.size w w' := by
  go_enter Try.func13, Try.ntmps13
  go_wp2
  exact bodyPost_ret (v := .agg #[.int .i64 h, .int .i64 l]) (by simp [results, Try.results13, go_sem]) rfl ⟨rfl, (by repeat (first | (with_reducible exact b_refl _) | (with_reducible refine b_alloc ?_ _) | (with_reducible refine b_drew ?_) | (with_reducible refine b_drewN ?_ _) | (with_reducible refine b_set ?_ ?_ _) | (with_reducible refine b_trans ?_ (by assumption)) | (with_reducible refine b_only ?_ (by assumption) ?_) | omega | (focus (simp; done)) | (focus (simp; omega))))⟩
theorem spec_FlowNext (h l c : Int) (wt : Bool) (w : World) : Calls Try.prog 15 #[.agg #[.int .i64 h, .int .i64 l], .int .i64 c, .bool wt] w fun e w' => e = .returned (.bool (flowNext h l c wt)) ∧ Below w.heap.size w w' := by
  go_enter Try.func15, Try.ntmps15
  go_wp2_with (go_at_call 12; (with_reducible refine (spec_FlowValid _ _ _).mono ?_); rintro e w' ⟨rfl, hb⟩; obtain ⟨hc, hf⟩ := bcell hb; have hz := hb.size; simp at hz)
  all_goals
    go_ret
    refine ⟨ret_bool ?_, (by repeat (first | (with_reducible exact b_refl _) | (with_reducible refine b_alloc ?_ _) | (with_reducible refine b_drew ?_) | (with_reducible refine b_drewN ?_ _) | (with_reducible refine b_set ?_ ?_ _) | (with_reducible refine b_trans ?_ (by assumption)) | (with_reducible refine b_only ?_ (by assumption) ?_) | omega | (focus (simp; done)) | (focus (simp; omega))))⟩
    try simp only [Bool.not_eq_true', Bool.not_eq_false'] at *
    first | exact flowNext_1 (by assumption) | exact flowNext_2 (by assumption) (by assumption) | exact flowNext_3 (by assumption) (by assumption) (by assumption) | exact flowNext_4 (by assumption) (by assumption) (by assumption)
set_option maxHeartbeats 1000000 in
theorem impl_FlowNext (h l c : Int) (wt : Bool) (w : World) : Calls Try.prog 16 #[.agg #[.int .i64 h, .int .i64 l], .int .i64 c, .bool wt] w fun e w' => e = .returned (.bool (flowNext h l c wt)) ∧ Below w.heap.size w w' := by
  go_enter Try.func16, Try.ntmps16
  go_wp2_with (first | (go_at_call 14; (with_reducible refine (impl_FlowValid _ _ _).mono ?_); rintro e w' ⟨rfl, hb⟩; obtain ⟨hc, hf⟩ := bcell hb; have hz := hb.size; simp at hz) | go_in)
  all_goals
    go_ret
    refine ⟨ret_bool ?_, (by repeat (first | (with_reducible exact b_refl _) | (with_reducible refine b_alloc ?_ _) | (with_reducible refine b_drew ?_) | (with_reducible refine b_drewN ?_ _) | (with_reducible refine b_set ?_ ?_ _) | (with_reducible refine b_trans ?_ (by assumption)) | (with_reducible refine b_only ?_ (by assumption) ?_) | omega | (focus (simp; done)) | (focus (simp; omega))))⟩
    try simp only [Bool.not_eq_true', Bool.not_eq_false'] at *
    first | exact flowNext_1 (by assumption) | exact flowNext_2 (by assumption) (by assumption) | exact flowNext_3 (by assumption) (by assumption) (by assumption) | exact flowNext_4 (by assumption) (by assumption) (by assumption)
end Go.Proofs.Ytgnoceofabkfcaa
