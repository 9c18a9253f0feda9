/-
  RATES: DivisorFor, RatesAgree and the lengths of frames (the program's and the reference's).
-/
import Derived.Test.YtdlomcbnnaafbaaRate
set_option linter.unusedVariables false
set_option linter.unusedSimpArgs false
namespace Go.Proofs.Ytdlomcbnnaafbaa
open Go.ChangeShapes Go.WideShapes Go.ChangeAt Go.RowKit

theorem ret_ib {a b : Int} {x y : Bool} (h : a = b) (k : x = y) : Ending.returned (.tuple #[.int .i64 a, .bool x]) = Ending.returned (.tuple #[.int .i64 b, .bool y]) := by rw [h, k]
theorem fLen_bd {b p s : Int} (h : fmtOk b p s = true) : 7 ≤ fLen b p s ∧ fLen b p s ≤ 12 := by
  have := fmtOk_iff.1 h
  unfold fLen
  split <;> omega
theorem spec_l1Length (b p s : Int) (w : World) (h : fmtOk b p s = true) : Calls Try.prog 26 #[.agg #[.int .i64 b, .int .i64 p, .int .i64 s]] w fun e w' => e = .returned (.int .i64 (fLen b p s)) ∧ Below w.heap.size w w' := by
  have hb := fmtOk_iff.1 h
  go_enter Try.func26, Try.ntmps26
  go_wp2
  all_goals
    go_ret
    refine ⟨ret_int ?_, (by repeat (first | (with_reducible exact b_refl _) | (with_reducible refine b_alloc ?_ _) | (with_reducible refine b_drew ?_) | (with_reducible refine b_drewN ?_ _) | (with_reducible refine b_set ?_ ?_ _) | (with_reducible refine b_trans ?_ (by assumption)) | (with_reducible refine b_only ?_ (by assumption) ?_) | omega | (focus (simp; done)) | (focus (simp; omega))))⟩
    simp_all [fLen]
    try omega
theorem impl_FrameLength (b p s : Int) (w : World) (h : fmtOk b p s = true) : Calls Try.prog 28 #[.agg #[.int .i64 b, .int .i64 p, .int .i64 s]] w fun e w' => e = .returned (.int .i64 (fLen b p s)) ∧ Below w.heap.size w w' := by
  have hb := fmtOk_iff.1 h
  go_enter Try.func28, Try.ntmps28
  go_wp2_with (go_at_call 27; (with_reducible refine (impl_FormatValid _ _ _ _).mono ?_); rintro e w' ⟨rfl, hb⟩; obtain ⟨hc, hf⟩ := bcell hb; have hz := hb.size; simp at hz)
  all_goals
    go_ret
    refine ⟨ret_int ?_, (by repeat (first | (with_reducible exact b_refl _) | (with_reducible refine b_alloc ?_ _) | (with_reducible refine b_drew ?_) | (with_reducible refine b_drewN ?_ _) | (with_reducible refine b_set ?_ ?_ _) | (with_reducible refine b_trans ?_ (by assumption)) | (with_reducible refine b_only ?_ (by assumption) ?_) | omega | (focus (simp; done)) | (focus (simp; omega))))⟩
    simp_all [fLen]
    try omega
theorem far_any (a b : Int) (w : World) (ha : divOk a = true) (hb : divOk b = true) (m : Int) (hm : m = max a b - min a b) : Calls Try.prog 29 #[.int .i64 a, .int .i64 b] w fun e w' => e = .returned (.int .i64 m) ∧ w = w' := by
  have HM := Lib.hid hm
  clear hm
  have h1 := divOk_iff.1 ha
  have h2 := divOk_iff.1 hb
  go_enter Try.func29, Try.ntmps29
  go_wp2
  all_goals
    go_ret
    exact ⟨ret_int (by rw [HM.out]; omega), rfl⟩
def agree (a b bt p s : Int) : Bool := divOk a && divOk b && fmtOk bt p s && decide (2 * fLen bt p s * (max a b - min a b) < min a b)
theorem agree_no {a b bt p s : Int} (h : divOk a = false ∨ divOk b = false ∨ fmtOk bt p s = false) : agree a b bt p s = false := by
  rcases h with h | h | h <;> simp [agree, h]
theorem agree_yes {a b bt p s : Int} (h1 : divOk a = true) (h2 : divOk b = true) (h3 : fmtOk bt p s = true) : agree a b bt p s = decide (2 * fLen bt p s * (max a b - min a b) < min a b) := by simp [agree, h1, h2, h3]
theorem agree_comm (a b bt p s : Int) : agree b a bt p s = agree a b bt p s := by
  unfold agree
  rw [Int.max_comm b a, Int.min_comm b a, Bool.and_comm (divOk b)]
theorem agree_parts {a b bt p s : Int} (h : agree a b bt p s = true) : divOk a = true ∧ divOk b = true ∧ fmtOk bt p s = true ∧ 2 * fLen bt p s * (max a b - min a b) < min a b := by
  simpa [agree, and_assoc] using h
theorem agree_self {a b bt p s : Int} (h : agree a b bt p s = true) : agree a a bt p s = true ∧ agree b b bt p s = true := by
  obtain ⟨h1, h2, h3, _⟩ := agree_parts h
  have e1 := divOk_iff.1 h1
  have e2 := divOk_iff.1 h2
  rw [agree_yes h1 h1 h3, agree_yes h2 h2 h3]
  simp
  omega
theorem agree_short {a b bt p s : Int} (h : agree a b bt p s = true) (h5 : bt ≠ 5) : agree a b (bt - 1) p s = true := by
  obtain ⟨h1, h2, h3, h4⟩ := agree_parts h
  have e3 := fmtOk_iff.1 h3
  have h6 : fmtOk (bt - 1) p s = true := fmtOk_iff.2 (by omega)
  have e : fLen (bt - 1) p s = fLen bt p s - 1 := by unfold fLen; omega
  rw [agree_yes h1 h2 h6, e]
  simp only [decide_eq_true_eq]
  have hm : 0 ≤ max a b - min a b := by omega
  have : 2 * (fLen bt p s - 1) * (max a b - min a b) = 2 * fLen bt p s * (max a b - min a b) - 2 * (max a b - min a b) := by
    rw [show 2 * (fLen bt p s - 1) = 2 * fLen bt p s - 2 from by omega, Int.sub_mul]
  omega
theorem agree_bd {l m : Int} (h1 : 7 ≤ l) (h2 : l ≤ 12) (h3 : 0 ≤ m) (h4 : m ≤ 2304) : 0 ≤ 2 * l * m ∧ 2 * l * m ≤ 60000 := by
  refine ⟨Int.mul_nonneg (by omega) h3, ?_⟩
  have := Int.mul_le_mul (show 2 * l ≤ 24 by omega) h4 h3 (by omega)
  omega
theorem agree_wrap {l m : Int} (h1 : 7 ≤ l) (h2 : l ≤ 12) (h3 : -2304 ≤ m) (h4 : m ≤ 2304) : wrap64 (2 * l * m) = 2 * l * m := by
  rcases Int.le_total 0 m with h | h
  · have := agree_bd h1 h2 h h4
    exact IntWalk.wrap64_in _ (by omega)
  · have := agree_bd h1 h2 (show 0 ≤ -m by omega) (by omega)
    rw [Int.mul_neg] at this
    exact IntWalk.wrap64_in _ (by omega)
theorem max_sub (a b : Int) : max (a - b) (b - a) = max a b - min a b := by omega
set_option maxHeartbeats 1000000 in
theorem spec_RatesAgree (a b bt p s : Int) (w : World) : Calls Try.prog 13 #[.int .i64 a, .int .i64 b, .agg #[.int .i64 bt, .int .i64 p, .int .i64 s]] w fun e w' => e = .returned (.bool (agree a b bt p s)) ∧ Below w.heap.size w w' := by
  by_cases ha : divOk a = true
  · by_cases hb : divOk b = true
    · by_cases hf : fmtOk bt p s = true
      · rw [agree_yes ha hb hf]
        have e1 := divOk_iff.1 ha
        have e2 := divOk_iff.1 hb
        have e3 := fLen_bd hf
        have W1 := Lib.hid (agree_wrap e3.1 e3.2 (m := b - a) (by omega) (by omega))
        have W2 := Lib.hid (agree_wrap e3.1 e3.2 (m := a - b) (by omega) (by omega))
        have d1 : in_ a 1 2304 = true := ha
        have d2 : in_ b 1 2304 = true := hb
        by_cases hab : a ≤ b
        · have e4 := agree_bd e3.1 e3.2 (m := b - a) (by omega) (by omega)
          rw [show max a b - min a b = b - a from by omega, show min a b = a from by omega]
          have hc : a - b ≤ b - a := by omega
          go_enter Try.func13, Try.ntmps13
          go_wp2_with (first | (go_at_call 20; refine (l6In_any _ _ _ _).mono ?_; rintro e w' ⟨rfl, rfl⟩) | (go_at_call 25; go_must ((with_reducible refine (spec_FormatValid _ _ _ _).mono ?_); rintro e w1 ⟨rfl, hb1⟩; have hz1 := hb1.size; (try simp at hz1); have F1 := (Blk.new _ _ _).below hb1 (by first | omega | (simp; done) | (simp; omega)); have F1l := F1.lt; have F1c0 := F1.cell 0; have F1f0 := F1.frozen 0; have F1c1 := F1.cell 1; have F1f1 := F1.frozen 1; have F1c2 := F1.cell 2; have F1f2 := F1.frozen 2; (try simp at F1c0 F1c1 F1c2))) | (go_at_call 26; go_must ((with_reducible refine (spec_l1Length _ _ _ _ hf).mono ?_); rintro e w2 ⟨rfl, hb2⟩; have hz2 := hb2.size; (try simp at hz2))))
          all_goals
            go_ret
            refine ⟨ret_bool ?_, (by repeat (first | (with_reducible exact b_refl _) | (with_reducible refine b_alloc ?_ _) | (with_reducible refine b_drew ?_) | (with_reducible refine b_drewN ?_ _) | (with_reducible refine b_set ?_ ?_ _) | (with_reducible refine b_trans ?_ (by assumption)) | (with_reducible refine b_only ?_ (by assumption) ?_) | omega | (focus (simp; done)) | (focus (simp; omega))))⟩
            first | rfl | (rw [W1.out]) | (rw [W2.out]; done) | (rw [W1.out, show a - b = b - a from by omega, show b = a from by omega]; done) | (rw [W1.out, show b - a = a - b from by omega, show a = b from by omega]; done) | (rw [W2.out, show a - b = b - a from by omega]; try rw [show b = a from by omega]) | (rw [W2.out, show b - a = a - b from by omega]; try rw [show a = b from by omega])
        · have e4 := agree_bd e3.1 e3.2 (m := a - b) (by omega) (by omega)
          rw [show max a b - min a b = a - b from by omega, show min a b = b from by omega]
          have hab2 : b < a := by omega
          go_enter Try.func13, Try.ntmps13
          go_wp2_with (first | (go_at_call 20; refine (l6In_any _ _ _ _).mono ?_; rintro e w' ⟨rfl, rfl⟩) | (go_at_call 25; go_must ((with_reducible refine (spec_FormatValid _ _ _ _).mono ?_); rintro e w1 ⟨rfl, hb1⟩; have hz1 := hb1.size; (try simp at hz1); have F1 := (Blk.new _ _ _).below hb1 (by first | omega | (simp; done) | (simp; omega)); have F1l := F1.lt; have F1c0 := F1.cell 0; have F1f0 := F1.frozen 0; have F1c1 := F1.cell 1; have F1f1 := F1.frozen 1; have F1c2 := F1.cell 2; have F1f2 := F1.frozen 2; (try simp at F1c0 F1c1 F1c2))) | (go_at_call 26; go_must ((with_reducible refine (spec_l1Length _ _ _ _ hf).mono ?_); rintro e w2 ⟨rfl, hb2⟩; have hz2 := hb2.size; (try simp at hz2))))
          all_goals
            go_ret
            refine ⟨ret_bool ?_, (by repeat (first | (with_reducible exact b_refl _) | (with_reducible refine b_alloc ?_ _) | (with_reducible refine b_drew ?_) | (with_reducible refine b_drewN ?_ _) | (with_reducible refine b_set ?_ ?_ _) | (with_reducible refine b_trans ?_ (by assumption)) | (with_reducible refine b_only ?_ (by assumption) ?_) | omega | (focus (simp; done)) | (focus (simp; omega))))⟩
            first | rfl | (rw [W1.out]) | (rw [W2.out]; done) | (rw [W1.out, show a - b = b - a from by omega, show b = a from by omega]; done) | (rw [W1.out, show b - a = a - b from by omega, show a = b from by omega]; done) | (rw [W2.out, show a - b = b - a from by omega]; try rw [show b = a from by omega]) | (rw [W2.out, show b - a = a - b from by omega]; try rw [show a = b from by omega])
      · have hf' : fmtOk bt p s = false := by simpa using hf
        rw [agree_no (.inr (.inr hf'))]
        have d1 : in_ a 1 2304 = true := ha
        have d2 : in_ b 1 2304 = true := hb
        go_enter Try.func13, Try.ntmps13
        go_wp2_with (first | (go_at_call 20; refine (l6In_any _ _ _ _).mono ?_; rintro e w' ⟨rfl, rfl⟩) | (go_at_call 25; go_must ((with_reducible refine (spec_FormatValid _ _ _ _).mono ?_); rintro e w1 ⟨rfl, hb1⟩; have hz1 := hb1.size; (try simp at hz1))))
        go_ret
        exact ⟨rfl, (by repeat (first | (with_reducible exact b_refl _) | (with_reducible refine b_alloc ?_ _) | (with_reducible refine b_drew ?_) | (with_reducible refine b_drewN ?_ _) | (with_reducible refine b_set ?_ ?_ _) | (with_reducible refine b_trans ?_ (by assumption)) | (with_reducible refine b_only ?_ (by assumption) ?_) | omega | (focus (simp; done)) | (focus (simp; omega))))⟩
    · have d1 : in_ a 1 2304 = true := ha
      have d2 : in_ b 1 2304 = false := by simpa [divOk] using hb
      rw [agree_no (.inr (.inl d2))]
      go_enter Try.func13, Try.ntmps13
      go_wp2_with (go_at_call 20; refine (l6In_any _ _ _ _).mono ?_; rintro e w' ⟨rfl, rfl⟩)
      go_ret
      exact ⟨rfl, (by repeat (first | (with_reducible exact b_refl _) | (with_reducible refine b_alloc ?_ _) | (with_reducible refine b_drew ?_) | (with_reducible refine b_drewN ?_ _) | (with_reducible refine b_set ?_ ?_ _) | (with_reducible refine b_trans ?_ (by assumption)) | (with_reducible refine b_only ?_ (by assumption) ?_) | omega | (focus (simp; done)) | (focus (simp; omega))))⟩
  · have d1 : in_ a 1 2304 = false := by simpa [divOk] using ha
    rw [agree_no (.inl d1)]
    go_enter Try.func13, Try.ntmps13
    go_wp2_with (go_at_call 20; refine (l6In_any _ _ _ _).mono ?_; rintro e w' ⟨rfl, rfl⟩)
    go_ret
    exact ⟨rfl, (by repeat (first | (with_reducible exact b_refl _) | (with_reducible refine b_alloc ?_ _) | (with_reducible refine b_drew ?_) | (with_reducible refine b_drewN ?_ _) | (with_reducible refine b_set ?_ ?_ _) | (with_reducible refine b_trans ?_ (by assumption)) | (with_reducible refine b_only ?_ (by assumption) ?_) | omega | (focus (simp; done)) | (focus (simp; omega))))⟩
set_option maxHeartbeats 1000000 in
theorem impl_RatesAgree (a b bt p s : Int) (w : World) : Calls Try.prog 15 #[.int .i64 a, .int .i64 b, .agg #[.int .i64 bt, .int .i64 p, .int .i64 s]] w fun e w' => e = .returned (.bool (agree a b bt p s)) ∧ Below w.heap.size w w' := by
  by_cases ha : divOk a = true
  · by_cases hb : divOk b = true
    · by_cases hf : fmtOk bt p s = true
      · rw [agree_yes ha hb hf]
        have e1 := divOk_iff.1 ha
        have e2 := divOk_iff.1 hb
        have e3 := fLen_bd hf
        have W1 := Lib.hid (agree_wrap e3.1 e3.2 (m := b - a) (by omega) (by omega))
        have W2 := Lib.hid (agree_wrap e3.1 e3.2 (m := a - b) (by omega) (by omega))
        by_cases hab : a ≤ b
        · have e4 := agree_bd e3.1 e3.2 (m := b - a) (by omega) (by omega)
          rw [show max a b - min a b = b - a from by omega, show min a b = a from by omega]
          have hc : a - b ≤ b - a := by omega
          go_enter Try.func15, Try.ntmps15
          go_wp2_with (first | (go_at_call 21; refine (valid_any _ _).mono ?_; rintro e w' ⟨rfl, rfl⟩) | (go_at_call 27; go_must ((with_reducible refine (impl_FormatValid _ _ _ _).mono ?_); rintro e w1 ⟨rfl, hb1⟩; have hz1 := hb1.size; (try simp at hz1); have F1 := (Blk.new _ _ _).below hb1 (by first | omega | (simp; done) | (simp; omega)); have F1l := F1.lt; have F1c0 := F1.cell 0; have F1f0 := F1.frozen 0; have F1c1 := F1.cell 1; have F1f1 := F1.frozen 1; have F1c2 := F1.cell 2; have F1f2 := F1.frozen 2; (try simp at F1c0 F1c1 F1c2))) | (go_at_call 28; go_must ((with_reducible refine (impl_FrameLength _ _ _ _ hf).mono ?_); rintro e w2 ⟨rfl, hb2⟩; have hz2 := hb2.size; (try simp at hz2))) | (go_at_call 29; refine (far_any _ _ _ ha hb (b - a) (by omega)).mono ?_; rintro e w' ⟨rfl, rfl⟩))
          all_goals
            go_ret
            refine ⟨ret_bool ?_, (by repeat (first | (with_reducible exact b_refl _) | (with_reducible refine b_alloc ?_ _) | (with_reducible refine b_drew ?_) | (with_reducible refine b_drewN ?_ _) | (with_reducible refine b_set ?_ ?_ _) | (with_reducible refine b_trans ?_ (by assumption)) | (with_reducible refine b_only ?_ (by assumption) ?_) | omega | (focus (simp; done)) | (focus (simp; omega))))⟩
            first | rfl | (rw [W1.out]) | (rw [W2.out]; done) | (rw [W1.out, show a - b = b - a from by omega, show b = a from by omega]; done) | (rw [W1.out, show b - a = a - b from by omega, show a = b from by omega]; done) | (rw [W2.out, show a - b = b - a from by omega]; try rw [show b = a from by omega]) | (rw [W2.out, show b - a = a - b from by omega]; try rw [show a = b from by omega])
        · have e4 := agree_bd e3.1 e3.2 (m := a - b) (by omega) (by omega)
          rw [show max a b - min a b = a - b from by omega, show min a b = b from by omega]
          have hab2 : b < a := by omega
          go_enter Try.func15, Try.ntmps15
          go_wp2_with (first | (go_at_call 21; refine (valid_any _ _).mono ?_; rintro e w' ⟨rfl, rfl⟩) | (go_at_call 27; go_must ((with_reducible refine (impl_FormatValid _ _ _ _).mono ?_); rintro e w1 ⟨rfl, hb1⟩; have hz1 := hb1.size; (try simp at hz1); have F1 := (Blk.new _ _ _).below hb1 (by first | omega | (simp; done) | (simp; omega)); have F1l := F1.lt; have F1c0 := F1.cell 0; have F1f0 := F1.frozen 0; have F1c1 := F1.cell 1; have F1f1 := F1.frozen 1; have F1c2 := F1.cell 2; have F1f2 := F1.frozen 2; (try simp at F1c0 F1c1 F1c2))) | (go_at_call 28; go_must ((with_reducible refine (impl_FrameLength _ _ _ _ hf).mono ?_); rintro e w2 ⟨rfl, hb2⟩; have hz2 := hb2.size; (try simp at hz2))) | (go_at_call 29; refine (far_any _ _ _ ha hb (a - b) (by omega)).mono ?_; rintro e w' ⟨rfl, rfl⟩))
          all_goals
            go_ret
            refine ⟨ret_bool ?_, (by repeat (first | (with_reducible exact b_refl _) | (with_reducible refine b_alloc ?_ _) | (with_reducible refine b_drew ?_) | (with_reducible refine b_drewN ?_ _) | (with_reducible refine b_set ?_ ?_ _) | (with_reducible refine b_trans ?_ (by assumption)) | (with_reducible refine b_only ?_ (by assumption) ?_) | omega | (focus (simp; done)) | (focus (simp; omega))))⟩
            first | rfl | (rw [W1.out]) | (rw [W2.out]; done) | (rw [W1.out, show a - b = b - a from by omega, show b = a from by omega]; done) | (rw [W1.out, show b - a = a - b from by omega, show a = b from by omega]; done) | (rw [W2.out, show a - b = b - a from by omega]; try rw [show b = a from by omega]) | (rw [W2.out, show b - a = a - b from by omega]; try rw [show a = b from by omega])
      · have hf' : fmtOk bt p s = false := by simpa using hf
        rw [agree_no (.inr (.inr hf'))]
        go_enter Try.func15, Try.ntmps15
        go_wp2_with (first | (go_at_call 21; refine (valid_any _ _).mono ?_; rintro e w' ⟨rfl, rfl⟩) | (go_at_call 27; go_must ((with_reducible refine (impl_FormatValid _ _ _ _).mono ?_); rintro e w1 ⟨rfl, hb1⟩; have hz1 := hb1.size; (try simp at hz1))))
        go_ret
        exact ⟨rfl, (by repeat (first | (with_reducible exact b_refl _) | (with_reducible refine b_alloc ?_ _) | (with_reducible refine b_drew ?_) | (with_reducible refine b_drewN ?_ _) | (with_reducible refine b_set ?_ ?_ _) | (with_reducible refine b_trans ?_ (by assumption)) | (with_reducible refine b_only ?_ (by assumption) ?_) | omega | (focus (simp; done)) | (focus (simp; omega))))⟩
    · have d2 : divOk b = false := by simpa using hb
      rw [agree_no (.inr (.inl d2))]
      go_enter Try.func15, Try.ntmps15
      go_wp2_with (go_at_call 21; refine (valid_any _ _).mono ?_; rintro e w' ⟨rfl, rfl⟩)
      go_ret
      exact ⟨rfl, (by repeat (first | (with_reducible exact b_refl _) | (with_reducible refine b_alloc ?_ _) | (with_reducible refine b_drew ?_) | (with_reducible refine b_drewN ?_ _) | (with_reducible refine b_set ?_ ?_ _) | (with_reducible refine b_trans ?_ (by assumption)) | (with_reducible refine b_only ?_ (by assumption) ?_) | omega | (focus (simp; done)) | (focus (simp; omega))))⟩
  · have d1 : divOk a = false := by simpa using ha
    rw [agree_no (.inl d1)]
    go_enter Try.func15, Try.ntmps15
    go_wp2_with (go_at_call 21; refine (valid_any _ _).mono ?_; rintro e w' ⟨rfl, rfl⟩)
    go_ret
    exact ⟨rfl, (by repeat (first | (with_reducible exact b_refl _) | (with_reducible refine b_alloc ?_ _) | (with_reducible refine b_drew ?_) | (with_reducible refine b_drewN ?_ _) | (with_reducible refine b_set ?_ ?_ _) | (with_reducible refine b_trans ?_ (by assumption)) | (with_reducible refine b_only ?_ (by assumption) ?_) | omega | (focus (simp; done)) | (focus (simp; omega))))⟩
def rateIn (r : Int) : Bool := in_ r 50 115200
def divFor (r : Int) : Int := if rateIn r = true then (230400 + r - 1) / (2 * r) else 0
theorem rateIn_iff {r : Int} : rateIn r = true ↔ 50 ≤ r ∧ r ≤ 115200 := by simp [rateIn, in_]
theorem spec_DivisorFor (r : Int) (w : World) : Calls Try.prog 18 #[.int .i64 r] w fun e w' => e = .returned (.tuple #[.int .i64 (divFor r), .bool (rateIn r)]) ∧ w = w' := by
  by_cases h : rateIn r = true
  · have hr := rateIn_iff.1 h
    have hin : in_ r 50 115200 = true := h
    rw [divFor, if_pos h, h]
    go_enter Try.func18, Try.ntmps18
    go_wp2_with (go_at_call 20; refine (l6In_any _ _ _ _).mono ?_; rintro e w' ⟨rfl, rfl⟩)
    go_ret2
    exact ⟨rfl, rfl⟩
  · have hin : in_ r 50 115200 = false := by simpa [rateIn] using h
    have h2 : rateIn r = false := hin
    rw [divFor, if_neg h, h2]
    go_enter Try.func18, Try.ntmps18
    go_wp2_with (go_at_call 20; refine (l6In_any _ _ _ _).mono ?_; rintro e w' ⟨rfl, rfl⟩)
    go_ret2
    exact ⟨rfl, rfl⟩
theorem near_eq {r : Int} (h1 : 50 ≤ r) : (230400 + r - 1) / (2 * r) = 115200 / r + (if r < 2 * (115200 % r) then 1 else 0) := by
  have h2 := Int.mul_ediv_add_emod 115200 r
  have h3 := Int.emod_lt_of_pos 115200 (show 0 < r by omega)
  have h4 := Int.emod_nonneg 115200 (show r ≠ 0 by omega)
  generalize 115200 / r = q at *
  generalize 115200 % r = m at *
  have e2 : 2 * (r * q) = 2 * r * q := by rw [Int.mul_assoc]
  split
  · rw [show (230400 + r - 1 : Int) = (2 * m + r - 1 - 2 * r) + 2 * r * (q + 1) from by rw [Int.mul_add]; omega, Int.add_mul_ediv_left _ _ (by omega), Int.ediv_eq_zero_of_lt (by omega) (by omega)]
    omega
  · rw [show (230400 + r - 1 : Int) = (2 * m + r - 1) + 2 * r * q from by omega, Int.add_mul_ediv_left _ _ (by omega), Int.ediv_eq_zero_of_lt (by omega) (by omega)]
    omega
theorem impl_DivisorFor (r : Int) (w : World) : Calls Try.prog 17 #[.int .i64 r] w fun e w' => e = .returned (.tuple #[.int .i64 (divFor r), .bool (rateIn r)]) ∧ w = w' := by
  by_cases h : rateIn r = true
  · have hr := rateIn_iff.1 h
    have hq : 1 ≤ 115200 / r := (Int.le_ediv_iff_mul_le (by omega)).2 (by omega)
    have hq2 : 115200 / r ≤ 115200 := Int.ediv_le_self _ (by omega)
    have hm := Int.emod_lt_of_pos 115200 (show 0 < r by omega)
    have hm2 := Int.emod_nonneg 115200 (show r ≠ 0 by omega)
    rw [divFor, if_pos h, h, near_eq hr.1]
    go_enter Try.func17, Try.ntmps17
    go_wp2
    all_goals
      go_ret2
      exact ⟨ret_ib (by first | rfl | omega) rfl, rfl⟩
  · have h2 : rateIn r = false := by simpa using h
    have h3 : r < 50 ∨ 115200 < r := by
      rw [rateIn_iff] at h; omega
    rw [divFor, if_neg h, h2]
    clear h h2
    rcases h3 with h3 | h3
    · go_enter Try.func17, Try.ntmps17
      go_wp2
      go_ret2
      exact ⟨rfl, rfl⟩
    · have h4 : ¬ r < 50 := by omega
      go_enter Try.func17, Try.ntmps17
      go_wp2
      go_ret2
      exact ⟨rfl, rfl⟩
theorem divFor_rate {r : Int} (h : rateIn r = true) (hd : 115200 % r = 0) : rateOf (divFor r) = r := by
  have hr := rateIn_iff.1 h
  have e : divFor r = 115200 / r := by
    rw [divFor, if_pos h, near_eq hr.1, hd]
    rw [if_neg (by omega)]
    omega
  have h2 := Int.mul_ediv_add_emod 115200 r
  rw [hd] at h2
  have hq : 1 ≤ 115200 / r := (Int.le_ediv_iff_mul_le (by omega)).2 (by omega)
  have hq2 : 115200 / r ≤ 2304 := Int.ediv_le_of_le_mul (by omega) (by omega)
  have hq3 : 115200 / (115200 / r) = r := by
    generalize 115200 / r = q at *
    rw [show (115200 : Int) = r * q from by omega]
    exact Int.mul_ediv_cancel _ (by omega)
  have hok : divOk (divFor r) = true := divOk_iff.2 (by omega)
  rw [rateOf, if_pos hok, e, hq3]
theorem rate_bd {d : Int} (h : divOk d = true) : 0 ≤ d * (115200 / d) ∧ d * (115200 / d) ≤ 115200 ∧ 115200 < d * (115200 / d + 1) ∧ d * (115200 / d + 1) ≤ 117504 := by
  have hd := divOk_iff.1 h
  have h2 := Int.mul_ediv_add_emod 115200 d
  have h3 := Int.emod_lt_of_pos 115200 (show 0 < d by omega)
  have h4 := Int.emod_nonneg 115200 (show d ≠ 0 by omega)
  have h5 : d * (115200 / d + 1) = d * (115200 / d) + d := by rw [Int.mul_add]; omega
  have h6 : 0 ≤ d * (115200 / d) := Int.mul_nonneg (by omega) (Int.ediv_nonneg (by omega) (by omega))
  omega
theorem rate_more {d : Int} (h : 1 ≤ d) : 0 ≤ 115200 / (d + 1) ∧ 115200 / (d + 1) ≤ 115200 / d := by
  refine ⟨Int.ediv_nonneg (by omega) (by omega), (Int.le_ediv_iff_mul_le (by omega)).2 ?_⟩
  have h2 := Int.mul_ediv_add_emod 115200 (d + 1)
  have h4 := Int.emod_nonneg 115200 (show d + 1 ≠ 0 by omega)
  have h5 : 0 ≤ 115200 / (d + 1) := Int.ediv_nonneg (by omega) (by omega)
  have h6 : (d + 1) * (115200 / (d + 1)) = 115200 / (d + 1) * d + 115200 / (d + 1) := by rw [Int.add_mul, Int.mul_comm d]; omega
  omega
end Go.Proofs.Ytdlomcbnnaafbaa
