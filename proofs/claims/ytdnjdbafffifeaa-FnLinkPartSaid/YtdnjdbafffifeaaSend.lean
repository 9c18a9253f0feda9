/-
  SENDERS: SendValid, SendStatus (the program's and the reference's), waiting, FifoValid. Condition: at most 2^40 elements.
-/
import Derived.Test.YtdnjdbafffifeaaGot
set_option linter.unusedVariables false
set_option linter.unusedSimpArgs false
namespace Go.Proofs.Ytdnjdbafffifeaa
open Go.ChangeShapes Go.WideShapes Go.ChangeAt Go.RowKit

/-- Does a sender's line fit? -/
def lineOk (sh sl : Int) : Bool := if sh = -1 then decide (sl = 0) else in_ sh 0 255 && in_ sl 1 3
def queueOk (sr : Int) (xs : List Int) : Bool := in_ sr 1 16 && decide ((xs.length : Int) ≤ sr) && bytesOk xs
theorem sendOk_eq (sr : Int) (xs : List Int) (sh sl : Int) : sendOk sr xs sh sl = (queueOk sr xs && lineOk sh sl) := rfl
theorem queueOk_no {sr : Int} {xs : List Int} (h : in_ sr 1 16 = false ∨ sr < xs.length ∨ bytesOk xs = false) : queueOk sr xs = false := by
  rw [← Bool.not_eq_true]
  simp only [queueOk, Bool.and_eq_true, decide_eq_true_eq]
  rintro ⟨⟨h1, h2⟩, h3⟩
  rcases h with h | h | h
  · rw [h] at h1; cases h1
  · omega
  · rw [h] at h3; cases h3
theorem queueOk_yes {sr : Int} {xs : List Int} (h1 : in_ sr 1 16 = true) (h2 : (xs.length : Int) ≤ sr) (h3 : bytesOk xs = true) : queueOk sr xs = true := by
  simp [queueOk, h1, h2, h3]
theorem lineOk_idle {sl : Int} : lineOk (-1) sl = decide (sl = 0) := rfl
theorem lineOk_busy {sh sl : Int} (h : ¬ sh = -1) : lineOk sh sl = (in_ sh 0 255 && in_ sl 1 3) := if_neg h
set_option maxHeartbeats 2000000 in
theorem spec_SendValid (sr : Int) (A : Option Addr) (n c : Nat) (sh sl : Int) (xs : List Int) (w : World) (hx : Ints w A n xs) (hn : n ≤ 1099511627776) :
    Calls Try.prog 65 #[.agg #[.int .i64 sr, .slice A n c, .int .i64 sh, .int .i64 sl]] w fun e w' => e = .returned (.bool (sendOk sr xs sh sl)) ∧ Below w.heap.size w w' := by
  have HX := Lib.hid hx.len
  rw [sendOk_eq]
  by_cases a1 : in_ sr 1 16 = true
  case' neg =>
    have a2 : in_ sr 1 16 = false := by simpa using a1
    rw [queueOk_no (.inl a2), Bool.false_and]
    clear a1
    go_enter Try.func65, Try.ntmps65
    go_wp2_with (go_at_call 40; refine (l6In_any _ _ _ _).mono ?_; rintro e w' ⟨rfl, rfl⟩)
    go_ret
    exact ⟨rfl, (by repeat (first | (with_reducible exact b_refl _) | (with_reducible refine b_alloc ?_ _) | (with_reducible refine b_drew ?_) | (with_reducible refine b_drewN ?_ _) | (with_reducible refine b_set ?_ ?_ _) | (with_reducible refine b_trans ?_ (by assumption)) | (with_reducible refine b_only ?_ (by assumption) ?_) | omega | (focus (simp; done)) | (focus (simp; omega))))⟩
  by_cases b1 : (n : Int) ≤ sr
  case' neg =>
    have b2 : sr < (n : Int) := by omega
    rw [queueOk_no (.inr (.inl (by have := HX.out; omega))), Bool.false_and]
    clear b1
    go_enter Try.func65, Try.ntmps65
    go_wp2_with (go_at_call 40; refine (l6In_any _ _ _ _).mono ?_; rintro e w' ⟨rfl, rfl⟩)
    go_ret
    exact ⟨rfl, (by repeat (first | (with_reducible exact b_refl _) | (with_reducible refine b_alloc ?_ _) | (with_reducible refine b_drew ?_) | (with_reducible refine b_drewN ?_ _) | (with_reducible refine b_set ?_ ?_ _) | (with_reducible refine b_trans ?_ (by assumption)) | (with_reducible refine b_only ?_ (by assumption) ?_) | omega | (focus (simp; done)) | (focus (simp; omega))))⟩
  have b3 : ¬ sr < (n : Int) := by omega
  by_cases c1 : bytesOk xs = true
  case' neg =>
    have c2 : bytesOk xs = false := by simpa using c1
    rw [queueOk_no (.inr (.inr c2)), Bool.false_and]
    clear c1
    go_enter Try.func65, Try.ntmps65
    go_wp2_with (first | (go_at_call 40; refine (l6In_any _ _ _ _).mono ?_; rintro e w' ⟨rfl, rfl⟩) | (go_at_call 39; refine (l4Bytes_any _ _ _ _ _ (hx.alloc _) hn).mono ?_; rintro e w' ⟨rfl, rfl⟩))
    go_ret
    exact ⟨rfl, (by repeat (first | (with_reducible exact b_refl _) | (with_reducible refine b_alloc ?_ _) | (with_reducible refine b_drew ?_) | (with_reducible refine b_drewN ?_ _) | (with_reducible refine b_set ?_ ?_ _) | (with_reducible refine b_trans ?_ (by assumption)) | (with_reducible refine b_only ?_ (by assumption) ?_) | omega | (focus (simp; done)) | (focus (simp; omega))))⟩
  rw [queueOk_yes a1 (by have := HX.out; omega) c1, Bool.true_and]
  by_cases d1 : sh = -1
  · subst d1
    rw [lineOk_idle]
    go_enter Try.func65, Try.ntmps65
    go_wp2_with (first | (go_at_call 40; refine (l6In_any _ _ _ _).mono ?_; rintro e w' ⟨rfl, rfl⟩) | (go_at_call 39; refine (l4Bytes_any _ _ _ _ _ (hx.alloc _) hn).mono ?_; rintro e w' ⟨rfl, rfl⟩))
    all_goals go_ret
    all_goals (refine ⟨ret_bool ?_, (by repeat (first | (with_reducible exact b_refl _) | (with_reducible refine b_alloc ?_ _) | (with_reducible refine b_drew ?_) | (with_reducible refine b_drewN ?_ _) | (with_reducible refine b_set ?_ ?_ _) | (with_reducible refine b_trans ?_ (by assumption)) | (with_reducible refine b_only ?_ (by assumption) ?_) | omega | (focus (simp; done)) | (focus (simp; omega))))⟩; first | rfl | (exfalso; omega) | (simp_all; done) | (rw [Bool.eq_iff_iff]; simp; done))
  · have d2 : (sh == -1) = false := by simpa using d1
    rw [lineOk_busy d1]
    clear d1
    go_enter Try.func65, Try.ntmps65
    go_wp2_with (first | (go_at_call 40; refine (l6In_any _ _ _ _).mono ?_; rintro e w' ⟨rfl, rfl⟩) | (go_at_call 39; refine (l4Bytes_any _ _ _ _ _ (hx.alloc _) hn).mono ?_; rintro e w' ⟨rfl, rfl⟩))
    all_goals
      go_ret
      exact ⟨ret_bool (by simp_all), (by repeat (first | (with_reducible exact b_refl _) | (with_reducible refine b_alloc ?_ _) | (with_reducible refine b_drew ?_) | (with_reducible refine b_drewN ?_ _) | (with_reducible refine b_set ?_ ?_ _) | (with_reducible refine b_trans ?_ (by assumption)) | (with_reducible refine b_only ?_ (by assumption) ?_) | omega | (focus (simp; done)) | (focus (simp; omega))))⟩
theorem waiting_any (sr : Int) (A : Option Addr) (n c : Nat) (sh sl : Int) (w : World) :
    Calls Try.prog 96 #[.agg #[.int .i64 sr, .slice A n c, .int .i64 sh, .int .i64 sl]] w fun e w' => e = .returned (.agg #[.int .i64 sr, .slice A n c]) ∧ Below w.heap.size w w' := by
  go_enter Try.func96, Try.ntmps96
  go_wp2
  exact bodyPost_ret (by simp [results, Try.results96, go_sem, *]; repeat (first | exact rfl | refine And.intro ?_ ?_)) rfl ⟨rfl, (by repeat (first | (with_reducible exact b_refl _) | (with_reducible refine b_alloc ?_ _) | (with_reducible refine b_drew ?_) | (with_reducible refine b_drewN ?_ _) | (with_reducible refine b_set ?_ ?_ _) | (with_reducible refine b_trans ?_ (by assumption)) | (with_reducible refine b_only ?_ (by assumption) ?_) | omega | (focus (simp; done)) | (focus (simp; omega))))⟩
set_option maxHeartbeats 1000000 in
theorem FifoValid_any (sr : Int) (A : Option Addr) (n c : Nat) (xs : List Int) (w : World) (hx : Ints w A n xs) (hn : n ≤ 1099511627776) :
    Calls Try.prog 95 #[.agg #[.int .i64 sr, .slice A n c]] w fun e w' => e = .returned (.bool (queueOk sr xs)) ∧ Below w.heap.size w w' := by
  have HX := Lib.hid hx.len
  by_cases a1 : 1 ≤ sr
  case' neg =>
    have a2 : in_ sr 1 16 = false := by simp [in_]; omega
    have a3 : decide (1 ≤ sr) = false := by simpa using a1
    rw [queueOk_no (.inl a2)]
    clear a2
    go_enter Try.func95, Try.ntmps95
    go_wp2
    go_ret
    exact ⟨rfl, (by repeat (first | (with_reducible exact b_refl _) | (with_reducible refine b_alloc ?_ _) | (with_reducible refine b_drew ?_) | (with_reducible refine b_drewN ?_ _) | (with_reducible refine b_set ?_ ?_ _) | (with_reducible refine b_trans ?_ (by assumption)) | (with_reducible refine b_only ?_ (by assumption) ?_) | omega | (focus (simp; done)) | (focus (simp; omega))))⟩
  by_cases a4 : sr ≤ 16
  case' neg =>
    have a2 : in_ sr 1 16 = false := by simp [in_]; omega
    have a3 : decide (sr ≤ 16) = false := by simpa using a4
    rw [queueOk_no (.inl a2)]
    clear a2
    go_enter Try.func95, Try.ntmps95
    go_wp2
    go_ret
    exact ⟨rfl, (by repeat (first | (with_reducible exact b_refl _) | (with_reducible refine b_alloc ?_ _) | (with_reducible refine b_drew ?_) | (with_reducible refine b_drewN ?_ _) | (with_reducible refine b_set ?_ ?_ _) | (with_reducible refine b_trans ?_ (by assumption)) | (with_reducible refine b_only ?_ (by assumption) ?_) | omega | (focus (simp; done)) | (focus (simp; omega))))⟩
  by_cases b1 : (n : Int) ≤ sr
  case' neg =>
    have b3 : decide ((n : Int) ≤ sr) = false := by simpa using b1
    rw [queueOk_no (.inr (.inl (by have := HX.out; omega)))]
    go_enter Try.func95, Try.ntmps95
    go_wp2
    go_ret
    exact ⟨rfl, (by repeat (first | (with_reducible exact b_refl _) | (with_reducible refine b_alloc ?_ _) | (with_reducible refine b_drew ?_) | (with_reducible refine b_drewN ?_ _) | (with_reducible refine b_set ?_ ?_ _) | (with_reducible refine b_trans ?_ (by assumption)) | (with_reducible refine b_only ?_ (by assumption) ?_) | omega | (focus (simp; done)) | (focus (simp; omega))))⟩
  have e : queueOk sr xs = bytesOk xs := by
    have h1 : in_ sr 1 16 = true := by simp [in_]; omega
    have h2 : decide ((xs.length : Int) ≤ sr) = true := by have := HX.out; simp; omega
    simp only [queueOk, h1, h2, Bool.true_and]
  rw [e]
  clear e
  go_enter Try.func95, Try.ntmps95
  go_wp2_with (go_at_call 62; refine (allBytes_any _ _ _ _ _ (hx.alloc _) hn).mono ?_; rintro e w' ⟨rfl, rfl⟩)
  go_ret
  exact ⟨rfl, (by repeat (first | (with_reducible exact b_refl _) | (with_reducible refine b_alloc ?_ _) | (with_reducible refine b_drew ?_) | (with_reducible refine b_drewN ?_ _) | (with_reducible refine b_set ?_ ?_ _) | (with_reducible refine b_trans ?_ (by assumption)) | (with_reducible refine b_only ?_ (by assumption) ?_) | omega | (focus (simp; done)) | (focus (simp; omega))))⟩
set_option maxHeartbeats 2000000 in
theorem impl_SendValid (sr : Int) (A : Option Addr) (n c : Nat) (sh sl : Int) (xs : List Int) (w : World) (hx : Ints w A n xs) (hn : n ≤ 1099511627776) :
    Calls Try.prog 80 #[.agg #[.int .i64 sr, .slice A n c, .int .i64 sh, .int .i64 sl]] w fun e w' => e = .returned (.bool (sendOk sr xs sh sl)) ∧ Below w.heap.size w w' := by
  rw [sendOk_eq]
  by_cases q1 : queueOk sr xs = true
  case' neg =>
    have q2 : queueOk sr xs = false := by simpa using q1
    rw [q2, Bool.false_and]
    clear q1
    go_enter Try.func80, Try.ntmps80
    go_wp2_with fail
    (with_reducible refine (waiting_any _ _ _ _ _ _ _).mono ?_); rintro e w1 ⟨rfl, hb1⟩; have hz1 := hb1.size; (try simp at hz1); have F1 := (Blk.new _ _ _).below hb1 (by first | omega | (simp; done) | (simp; omega)); have F1l := F1.lt; have F1c0 := F1.cell 0; have F1f0 := F1.frozen 0; have F1c1 := F1.cell 1; have F1f1 := F1.frozen 1; have F1c2 := F1.cell 2; have F1f2 := F1.frozen 2; have F1c3 := F1.cell 3; have F1f3 := F1.frozen 3; (try simp at F1c0 F1c1 F1c2 F1c3)
    go_wp2_with fail
    (with_reducible refine (FifoValid_any sr A n c xs _ ((hx.alloc _).below hb1) hn).mono ?_); rintro e w2 ⟨rfl, hb2⟩; have hz2 := hb2.size; (try simp at hz2); have F2 := Blk.lift F1 hb2 (by repeat (first | (with_reducible exact F1) | (with_reducible refine Blk.drew ?_) | (with_reducible refine Blk.drewN ?_ _) | (with_reducible refine Blk.alloc ?_ _) | (with_reducible refine Blk.far ?_ ?_ _) | omega | (focus (simp; done)) | (focus (simp; omega)))); have F2l := F2.lt; have F2c0 := F2.cell 0; have F2f0 := F2.frozen 0; have F2c1 := F2.cell 1; have F2f1 := F2.frozen 1; have F2c2 := F2.cell 2; have F2f2 := F2.frozen 2; have F2c3 := F2.cell 3; have F2f3 := F2.frozen 3; (try simp at F2c0 F2c1 F2c2 F2c3)
    go_wp2
    go_ret
    exact ⟨rfl, (by repeat (first | (with_reducible exact b_refl _) | (with_reducible refine b_alloc ?_ _) | (with_reducible refine b_drew ?_) | (with_reducible refine b_drewN ?_ _) | (with_reducible refine b_set ?_ ?_ _) | (with_reducible refine b_trans ?_ (by assumption)) | (with_reducible refine b_only ?_ (by assumption) ?_) | omega | (focus (simp; done)) | (focus (simp; omega))))⟩
  rw [q1, Bool.true_and]
  by_cases d1 : sh = -1
  · subst d1
    rw [lineOk_idle]
    go_enter Try.func80, Try.ntmps80
    go_wp2_with fail
    (with_reducible refine (waiting_any _ _ _ _ _ _ _).mono ?_); rintro e w1 ⟨rfl, hb1⟩; have hz1 := hb1.size; (try simp at hz1); have F1 := (Blk.new _ _ _).below hb1 (by first | omega | (simp; done) | (simp; omega)); have F1l := F1.lt; have F1c0 := F1.cell 0; have F1f0 := F1.frozen 0; have F1c1 := F1.cell 1; have F1f1 := F1.frozen 1; have F1c2 := F1.cell 2; have F1f2 := F1.frozen 2; have F1c3 := F1.cell 3; have F1f3 := F1.frozen 3; (try simp at F1c0 F1c1 F1c2 F1c3)
    go_wp2_with fail
    (with_reducible refine (FifoValid_any sr A n c xs _ ((hx.alloc _).below hb1) hn).mono ?_); rintro e w2 ⟨rfl, hb2⟩; have hz2 := hb2.size; (try simp at hz2); have F2 := Blk.lift F1 hb2 (by repeat (first | (with_reducible exact F1) | (with_reducible refine Blk.drew ?_) | (with_reducible refine Blk.drewN ?_ _) | (with_reducible refine Blk.alloc ?_ _) | (with_reducible refine Blk.far ?_ ?_ _) | omega | (focus (simp; done)) | (focus (simp; omega)))); have F2l := F2.lt; have F2c0 := F2.cell 0; have F2f0 := F2.frozen 0; have F2c1 := F2.cell 1; have F2f1 := F2.frozen 1; have F2c2 := F2.cell 2; have F2f2 := F2.frozen 2; have F2c3 := F2.cell 3; have F2f3 := F2.frozen 3; (try simp at F2c0 F2c1 F2c2 F2c3)
    go_wp2
    all_goals go_ret
    all_goals (refine ⟨ret_bool ?_, (by repeat (first | (with_reducible exact b_refl _) | (with_reducible refine b_alloc ?_ _) | (with_reducible refine b_drew ?_) | (with_reducible refine b_drewN ?_ _) | (with_reducible refine b_set ?_ ?_ _) | (with_reducible refine b_trans ?_ (by assumption)) | (with_reducible refine b_only ?_ (by assumption) ?_) | omega | (focus (simp; done)) | (focus (simp; omega))))⟩; first | rfl | (exfalso; omega) | (simp_all; done) | (rw [Bool.eq_iff_iff]; simp; done))
  · have d2 : (sh == -1) = false := by simpa using d1
    rw [lineOk_busy d1]
    clear d1
    go_enter Try.func80, Try.ntmps80
    go_wp2_with fail
    (with_reducible refine (waiting_any _ _ _ _ _ _ _).mono ?_); rintro e w1 ⟨rfl, hb1⟩; have hz1 := hb1.size; (try simp at hz1); have F1 := (Blk.new _ _ _).below hb1 (by first | omega | (simp; done) | (simp; omega)); have F1l := F1.lt; have F1c0 := F1.cell 0; have F1f0 := F1.frozen 0; have F1c1 := F1.cell 1; have F1f1 := F1.frozen 1; have F1c2 := F1.cell 2; have F1f2 := F1.frozen 2; have F1c3 := F1.cell 3; have F1f3 := F1.frozen 3; (try simp at F1c0 F1c1 F1c2 F1c3)
    go_wp2_with fail
    (with_reducible refine (FifoValid_any sr A n c xs _ ((hx.alloc _).below hb1) hn).mono ?_); rintro e w2 ⟨rfl, hb2⟩; have hz2 := hb2.size; (try simp at hz2); have F2 := Blk.lift F1 hb2 (by repeat (first | (with_reducible exact F1) | (with_reducible refine Blk.drew ?_) | (with_reducible refine Blk.drewN ?_ _) | (with_reducible refine Blk.alloc ?_ _) | (with_reducible refine Blk.far ?_ ?_ _) | omega | (focus (simp; done)) | (focus (simp; omega)))); have F2l := F2.lt; have F2c0 := F2.cell 0; have F2f0 := F2.frozen 0; have F2c1 := F2.cell 1; have F2f1 := F2.frozen 1; have F2c2 := F2.cell 2; have F2f2 := F2.frozen 2; have F2c3 := F2.cell 3; have F2f3 := F2.frozen 3; (try simp at F2c0 F2c1 F2c2 F2c3)
    go_wp2_with (go_at_call 81; refine (isByte_any _ _).mono ?_; rintro e w' ⟨rfl, rfl⟩)
    all_goals
      go_ret
      refine ⟨ret_bool ?_, (by repeat (first | (with_reducible exact b_refl _) | (with_reducible refine b_alloc ?_ _) | (with_reducible refine b_drew ?_) | (with_reducible refine b_drewN ?_ _) | (with_reducible refine b_set ?_ ?_ _) | (with_reducible refine b_trans ?_ (by assumption)) | (with_reducible refine b_only ?_ (by assumption) ?_) | omega | (focus (simp; done)) | (focus (simp; omega))))⟩
      first | (simp_all [in_]; done) | (simp_all [in_]; omega)
/-- A sender's status. -/
def sendStatus (sr : Int) (xs : List Int) (sh sl : Int) : Int := if sendOk sr xs sh sl = true then (if 0 < xs.length then 0 else if sh = -1 then 96 else 32) else -1
set_option maxHeartbeats 1000000 in
theorem spec_SendStatus (sr : Int) (A : Option Addr) (n c : Nat) (sh sl : Int) (xs : List Int) (w : World) (hx : Ints w A n xs) (hn : n ≤ 1099511627776) :
    Calls Try.prog 114 #[.agg #[.int .i64 sr, .slice A n c, .int .i64 sh, .int .i64 sl]] w fun e w' => e = .returned (.int .i64 (sendStatus sr xs sh sl)) ∧ Below w.heap.size w w' := by
  have HX := Lib.hid hx.len
  by_cases q1 : sendOk sr xs sh sl = true
  case' neg =>
    have q2 : sendOk sr xs sh sl = false := by simpa using q1
    rw [sendStatus, if_neg q1]
    clear q1
    go_enter Try.func114, Try.ntmps114
    go_wp2_with fail
    (with_reducible refine (spec_SendValid _ _ _ _ _ _ xs _ (hx.alloc _) hn).mono ?_); rintro e w1 ⟨rfl, hb1⟩; have hz1 := hb1.size; (try simp at hz1); have F1 := (Blk.new _ _ _).below hb1 (by first | omega | (simp; done) | (simp; omega)); have F1l := F1.lt; have F1c0 := F1.cell 0; have F1f0 := F1.frozen 0; have F1c1 := F1.cell 1; have F1f1 := F1.frozen 1; have F1c2 := F1.cell 2; have F1f2 := F1.frozen 2; have F1c3 := F1.cell 3; have F1f3 := F1.frozen 3; (try simp at F1c0 F1c1 F1c2 F1c3)
    go_wp2
    go_ret
    exact ⟨rfl, (by repeat (first | (with_reducible exact b_refl _) | (with_reducible refine b_alloc ?_ _) | (with_reducible refine b_drew ?_) | (with_reducible refine b_drewN ?_ _) | (with_reducible refine b_set ?_ ?_ _) | (with_reducible refine b_trans ?_ (by assumption)) | (with_reducible refine b_only ?_ (by assumption) ?_) | omega | (focus (simp; done)) | (focus (simp; omega))))⟩
  have hl : Hid (sh = -1 ∨ (0 ≤ sh ∧ sh ≤ 255)) := by
    rw [sendOk_eq, Bool.and_eq_true] at q1
    by_cases h : sh = -1
    · exact .inl h
    · have h2 := q1.2
      rw [lineOk_busy h, Bool.and_eq_true] at h2
      have h3 := h2.1
      simp [in_] at h3
      exact .inr h3
  rw [sendStatus, if_pos q1]
  by_cases h0 : 0 < n
  · rw [if_pos (by have := HX.out; omega)]
    have h1 : (0 : Int) < n := by omega
    go_enter Try.func114, Try.ntmps114
    go_wp2_with fail
    (with_reducible refine (spec_SendValid _ _ _ _ _ _ xs _ (hx.alloc _) hn).mono ?_); rintro e w1 ⟨rfl, hb1⟩; have hz1 := hb1.size; (try simp at hz1); have F1 := (Blk.new _ _ _).below hb1 (by first | omega | (simp; done) | (simp; omega)); have F1l := F1.lt; have F1c0 := F1.cell 0; have F1f0 := F1.frozen 0; have F1c1 := F1.cell 1; have F1f1 := F1.frozen 1; have F1c2 := F1.cell 2; have F1f2 := F1.frozen 2; have F1c3 := F1.cell 3; have F1f3 := F1.frozen 3; (try simp at F1c0 F1c1 F1c2 F1c3)
    go_wp2
    go_ret
    exact ⟨rfl, (by repeat (first | (with_reducible exact b_refl _) | (with_reducible refine b_alloc ?_ _) | (with_reducible refine b_drew ?_) | (with_reducible refine b_drewN ?_ _) | (with_reducible refine b_set ?_ ?_ _) | (with_reducible refine b_trans ?_ (by assumption)) | (with_reducible refine b_only ?_ (by assumption) ?_) | omega | (focus (simp; done)) | (focus (simp; omega))))⟩
  · rw [if_neg (by have := HX.out; omega)]
    have h1 : ¬ (0 : Int) < n := by omega
    by_cases d1 : sh = -1
    · rw [if_pos d1]
      have d3 : ¬ (0 ≤ sh) := by omega
      have D := Lib.hid d1
      clear d1
      go_enter Try.func114, Try.ntmps114
      go_wp2_with fail
      (with_reducible refine (spec_SendValid _ _ _ _ _ _ xs _ (hx.alloc _) hn).mono ?_); rintro e w1 ⟨rfl, hb1⟩; have hz1 := hb1.size; (try simp at hz1); have F1 := (Blk.new _ _ _).below hb1 (by first | omega | (simp; done) | (simp; omega)); have F1l := F1.lt; have F1c0 := F1.cell 0; have F1f0 := F1.frozen 0; have F1c1 := F1.cell 1; have F1f1 := F1.frozen 1; have F1c2 := F1.cell 2; have F1f2 := F1.frozen 2; have F1c3 := F1.cell 3; have F1f3 := F1.frozen 3; (try simp at F1c0 F1c1 F1c2 F1c3)
      go_wp2
      go_ret
      exact ⟨rfl, (by repeat (first | (with_reducible exact b_refl _) | (with_reducible refine b_alloc ?_ _) | (with_reducible refine b_drew ?_) | (with_reducible refine b_drewN ?_ _) | (with_reducible refine b_set ?_ ?_ _) | (with_reducible refine b_trans ?_ (by assumption)) | (with_reducible refine b_only ?_ (by assumption) ?_) | omega | (focus (simp; done)) | (focus (simp; omega))))⟩
    · rw [if_neg d1]
      have d3 : 0 ≤ sh := by have := hl.out; omega
      clear d1
      go_enter Try.func114, Try.ntmps114
      go_wp2_with fail
      (with_reducible refine (spec_SendValid _ _ _ _ _ _ xs _ (hx.alloc _) hn).mono ?_); rintro e w1 ⟨rfl, hb1⟩; have hz1 := hb1.size; (try simp at hz1); have F1 := (Blk.new _ _ _).below hb1 (by first | omega | (simp; done) | (simp; omega)); have F1l := F1.lt; have F1c0 := F1.cell 0; have F1f0 := F1.frozen 0; have F1c1 := F1.cell 1; have F1f1 := F1.frozen 1; have F1c2 := F1.cell 2; have F1f2 := F1.frozen 2; have F1c3 := F1.cell 3; have F1f3 := F1.frozen 3; (try simp at F1c0 F1c1 F1c2 F1c3)
      go_wp2
      go_ret
      exact ⟨rfl, (by repeat (first | (with_reducible exact b_refl _) | (with_reducible refine b_alloc ?_ _) | (with_reducible refine b_drew ?_) | (with_reducible refine b_drewN ?_ _) | (with_reducible refine b_set ?_ ?_ _) | (with_reducible refine b_trans ?_ (by assumption)) | (with_reducible refine b_only ?_ (by assumption) ?_) | omega | (focus (simp; done)) | (focus (simp; omega))))⟩
end Go.Proofs.Ytdnjdbafffifeaa
