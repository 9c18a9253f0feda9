/-
  IrqRank AND IrqBit OF THE SIX INTERRUPTS.
-/
import Derived.Test.YtflimlalccmdnaaIrq
import Derived.Handy
set_option linter.unusedVariables false
set_option linter.unusedSimpArgs false
namespace Go.Proofs.Ytflimlalccmdnaa
open Go.ChangeShapes Go.WideShapes Go.ChangeAt Go.RowKit

set_option maxHeartbeats 2000000 in
theorem find_6 (w : World) : Calls Try.prog 46 #[.int .i64 6] w fun e w' => e = .returned (.tuple #[.agg #[.int .i64 0, .int .i64 6, .int .i64 4], .bool true]) ∧ Below w.heap.size w w' := by
  have i0 := kidx_0
  go_enter Try.func46, Try.ntmps46
  go_wp2_with fail
  (with_reducible refine (irqKinds_any _).mono ?_); rintro e w1 ⟨rfl, hb1⟩; have hz1 := hb1.size; (try simp at hz1); have R1 := (Blk.new w _ _).below hb1 (by first | omega | (simp; done) | (simp; omega)); have R1l := R1.lt; have R1c0 := R1.cell 0; have R1f0 := R1.frozen 0; have R1c1 := R1.cell 1; have R1f1 := R1.frozen 1; have R1c2 := R1.cell 2; have R1f2 := R1.frozen 2; (try simp at R1c0 R1c1 R1c2)
  have n0 : ¬ w.heap.size = w1.heap.size := by omega
  have l0 : w.heap.size < w1.heap.size := by omega
  have n1 : ¬ w.heap.size = w1.heap.size + 1 := by omega
  have l1 : w.heap.size < w1.heap.size + 1 := by omega
  have n2 : ¬ w.heap.size = w1.heap.size + 1 + 1 := by omega
  have l2 : w.heap.size < w1.heap.size + 1 + 1 := by omega
  have n3 : ¬ w.heap.size = w1.heap.size + 1 + 1 + 1 := by omega
  have l3 : w.heap.size < w1.heap.size + 1 + 1 + 1 := by omega
  have n4 : ¬ w.heap.size = w1.heap.size + 1 + 1 + 1 + 1 := by omega
  have l4 : w.heap.size < w1.heap.size + 1 + 1 + 1 + 1 := by omega
  have n5 : ¬ w.heap.size = w1.heap.size + 1 + 1 + 1 + 1 + 1 := by omega
  have l5 : w.heap.size < w1.heap.size + 1 + 1 + 1 + 1 + 1 := by omega
  have n6 : ¬ w.heap.size = w1.heap.size + 1 + 1 + 1 + 1 + 1 + 1 := by omega
  have l6 : w.heap.size < w1.heap.size + 1 + 1 + 1 + 1 + 1 + 1 := by omega
  go_wp2
  go_rounds 1
  exact bodyPost_ret (by simp [results, Try.results46, go_sem, *]; repeat (first | exact rfl | refine And.intro ?_ ?_)) rfl ⟨rfl, (by repeat (first | (with_reducible exact b_refl _) | (with_reducible refine b_alloc ?_ _) | (with_reducible refine b_drew ?_) | (with_reducible refine b_drewN ?_ _) | (with_reducible refine b_set ?_ ?_ _) | (with_reducible refine b_trans ?_ (by assumption)) | (with_reducible refine b_only ?_ (by assumption) ?_) | omega | (focus (simp; done)) | (focus (simp; omega))))⟩
set_option maxHeartbeats 2000000 in
theorem find_4 (w : World) : Calls Try.prog 46 #[.int .i64 4] w fun e w' => e = .returned (.tuple #[.agg #[.int .i64 1, .int .i64 4, .int .i64 1], .bool true]) ∧ Below w.heap.size w w' := by
  have i0 := kidx_0
  have i1 := kidx_1
  go_enter Try.func46, Try.ntmps46
  go_wp2_with fail
  (with_reducible refine (irqKinds_any _).mono ?_); rintro e w1 ⟨rfl, hb1⟩; have hz1 := hb1.size; (try simp at hz1); have R1 := (Blk.new w _ _).below hb1 (by first | omega | (simp; done) | (simp; omega)); have R1l := R1.lt; have R1c0 := R1.cell 0; have R1f0 := R1.frozen 0; have R1c1 := R1.cell 1; have R1f1 := R1.frozen 1; have R1c2 := R1.cell 2; have R1f2 := R1.frozen 2; (try simp at R1c0 R1c1 R1c2)
  have n0 : ¬ w.heap.size = w1.heap.size := by omega
  have l0 : w.heap.size < w1.heap.size := by omega
  have n1 : ¬ w.heap.size = w1.heap.size + 1 := by omega
  have l1 : w.heap.size < w1.heap.size + 1 := by omega
  have n2 : ¬ w.heap.size = w1.heap.size + 1 + 1 := by omega
  have l2 : w.heap.size < w1.heap.size + 1 + 1 := by omega
  have n3 : ¬ w.heap.size = w1.heap.size + 1 + 1 + 1 := by omega
  have l3 : w.heap.size < w1.heap.size + 1 + 1 + 1 := by omega
  have n4 : ¬ w.heap.size = w1.heap.size + 1 + 1 + 1 + 1 := by omega
  have l4 : w.heap.size < w1.heap.size + 1 + 1 + 1 + 1 := by omega
  have n5 : ¬ w.heap.size = w1.heap.size + 1 + 1 + 1 + 1 + 1 := by omega
  have l5 : w.heap.size < w1.heap.size + 1 + 1 + 1 + 1 + 1 := by omega
  have n6 : ¬ w.heap.size = w1.heap.size + 1 + 1 + 1 + 1 + 1 + 1 := by omega
  have l6 : w.heap.size < w1.heap.size + 1 + 1 + 1 + 1 + 1 + 1 := by omega
  go_wp2
  go_rounds 2
  exact bodyPost_ret (by simp [results, Try.results46, go_sem, *]; repeat (first | exact rfl | refine And.intro ?_ ?_)) rfl ⟨rfl, (by repeat (first | (with_reducible exact b_refl _) | (with_reducible refine b_alloc ?_ _) | (with_reducible refine b_drew ?_) | (with_reducible refine b_drewN ?_ _) | (with_reducible refine b_set ?_ ?_ _) | (with_reducible refine b_trans ?_ (by assumption)) | (with_reducible refine b_only ?_ (by assumption) ?_) | omega | (focus (simp; done)) | (focus (simp; omega))))⟩
set_option maxHeartbeats 2000000 in
theorem find_12 (w : World) : Calls Try.prog 46 #[.int .i64 12] w fun e w' => e = .returned (.tuple #[.agg #[.int .i64 2, .int .i64 12, .int .i64 1], .bool true]) ∧ Below w.heap.size w w' := by
  have i0 := kidx_0
  have i1 := kidx_1
  have i2 := kidx_2
  go_enter Try.func46, Try.ntmps46
  go_wp2_with fail
  (with_reducible refine (irqKinds_any _).mono ?_); rintro e w1 ⟨rfl, hb1⟩; have hz1 := hb1.size; (try simp at hz1); have R1 := (Blk.new w _ _).below hb1 (by first | omega | (simp; done) | (simp; omega)); have R1l := R1.lt; have R1c0 := R1.cell 0; have R1f0 := R1.frozen 0; have R1c1 := R1.cell 1; have R1f1 := R1.frozen 1; have R1c2 := R1.cell 2; have R1f2 := R1.frozen 2; (try simp at R1c0 R1c1 R1c2)
  have n0 : ¬ w.heap.size = w1.heap.size := by omega
  have l0 : w.heap.size < w1.heap.size := by omega
  have n1 : ¬ w.heap.size = w1.heap.size + 1 := by omega
  have l1 : w.heap.size < w1.heap.size + 1 := by omega
  have n2 : ¬ w.heap.size = w1.heap.size + 1 + 1 := by omega
  have l2 : w.heap.size < w1.heap.size + 1 + 1 := by omega
  have n3 : ¬ w.heap.size = w1.heap.size + 1 + 1 + 1 := by omega
  have l3 : w.heap.size < w1.heap.size + 1 + 1 + 1 := by omega
  have n4 : ¬ w.heap.size = w1.heap.size + 1 + 1 + 1 + 1 := by omega
  have l4 : w.heap.size < w1.heap.size + 1 + 1 + 1 + 1 := by omega
  have n5 : ¬ w.heap.size = w1.heap.size + 1 + 1 + 1 + 1 + 1 := by omega
  have l5 : w.heap.size < w1.heap.size + 1 + 1 + 1 + 1 + 1 := by omega
  have n6 : ¬ w.heap.size = w1.heap.size + 1 + 1 + 1 + 1 + 1 + 1 := by omega
  have l6 : w.heap.size < w1.heap.size + 1 + 1 + 1 + 1 + 1 + 1 := by omega
  go_wp2
  go_rounds 3
  exact bodyPost_ret (by simp [results, Try.results46, go_sem, *]; repeat (first | exact rfl | refine And.intro ?_ ?_)) rfl ⟨rfl, (by repeat (first | (with_reducible exact b_refl _) | (with_reducible refine b_alloc ?_ _) | (with_reducible refine b_drew ?_) | (with_reducible refine b_drewN ?_ _) | (with_reducible refine b_set ?_ ?_ _) | (with_reducible refine b_trans ?_ (by assumption)) | (with_reducible refine b_only ?_ (by assumption) ?_) | omega | (focus (simp; done)) | (focus (simp; omega))))⟩
set_option maxHeartbeats 2000000 in
theorem find_2 (w : World) : Calls Try.prog 46 #[.int .i64 2] w fun e w' => e = .returned (.tuple #[.agg #[.int .i64 3, .int .i64 2, .int .i64 2], .bool true]) ∧ Below w.heap.size w w' := by
  have i0 := kidx_0
  have i1 := kidx_1
  have i2 := kidx_2
  have i3 := kidx_3
  go_enter Try.func46, Try.ntmps46
  go_wp2_with fail
  (with_reducible refine (irqKinds_any _).mono ?_); rintro e w1 ⟨rfl, hb1⟩; have hz1 := hb1.size; (try simp at hz1); have R1 := (Blk.new w _ _).below hb1 (by first | omega | (simp; done) | (simp; omega)); have R1l := R1.lt; have R1c0 := R1.cell 0; have R1f0 := R1.frozen 0; have R1c1 := R1.cell 1; have R1f1 := R1.frozen 1; have R1c2 := R1.cell 2; have R1f2 := R1.frozen 2; (try simp at R1c0 R1c1 R1c2)
  have n0 : ¬ w.heap.size = w1.heap.size := by omega
  have l0 : w.heap.size < w1.heap.size := by omega
  have n1 : ¬ w.heap.size = w1.heap.size + 1 := by omega
  have l1 : w.heap.size < w1.heap.size + 1 := by omega
  have n2 : ¬ w.heap.size = w1.heap.size + 1 + 1 := by omega
  have l2 : w.heap.size < w1.heap.size + 1 + 1 := by omega
  have n3 : ¬ w.heap.size = w1.heap.size + 1 + 1 + 1 := by omega
  have l3 : w.heap.size < w1.heap.size + 1 + 1 + 1 := by omega
  have n4 : ¬ w.heap.size = w1.heap.size + 1 + 1 + 1 + 1 := by omega
  have l4 : w.heap.size < w1.heap.size + 1 + 1 + 1 + 1 := by omega
  have n5 : ¬ w.heap.size = w1.heap.size + 1 + 1 + 1 + 1 + 1 := by omega
  have l5 : w.heap.size < w1.heap.size + 1 + 1 + 1 + 1 + 1 := by omega
  have n6 : ¬ w.heap.size = w1.heap.size + 1 + 1 + 1 + 1 + 1 + 1 := by omega
  have l6 : w.heap.size < w1.heap.size + 1 + 1 + 1 + 1 + 1 + 1 := by omega
  go_wp2
  go_rounds 4
  exact bodyPost_ret (by simp [results, Try.results46, go_sem, *]; repeat (first | exact rfl | refine And.intro ?_ ?_)) rfl ⟨rfl, (by repeat (first | (with_reducible exact b_refl _) | (with_reducible refine b_alloc ?_ _) | (with_reducible refine b_drew ?_) | (with_reducible refine b_drewN ?_ _) | (with_reducible refine b_set ?_ ?_ _) | (with_reducible refine b_trans ?_ (by assumption)) | (with_reducible refine b_only ?_ (by assumption) ?_) | omega | (focus (simp; done)) | (focus (simp; omega))))⟩
set_option maxHeartbeats 2000000 in
theorem find_0 (w : World) : Calls Try.prog 46 #[.int .i64 0] w fun e w' => e = .returned (.tuple #[.agg #[.int .i64 4, .int .i64 0, .int .i64 8], .bool true]) ∧ Below w.heap.size w w' := by
  have i0 := kidx_0
  have i1 := kidx_1
  have i2 := kidx_2
  have i3 := kidx_3
  have i4 := kidx_4
  go_enter Try.func46, Try.ntmps46
  go_wp2_with fail
  (with_reducible refine (irqKinds_any _).mono ?_); rintro e w1 ⟨rfl, hb1⟩; have hz1 := hb1.size; (try simp at hz1); have R1 := (Blk.new w _ _).below hb1 (by first | omega | (simp; done) | (simp; omega)); have R1l := R1.lt; have R1c0 := R1.cell 0; have R1f0 := R1.frozen 0; have R1c1 := R1.cell 1; have R1f1 := R1.frozen 1; have R1c2 := R1.cell 2; have R1f2 := R1.frozen 2; (try simp at R1c0 R1c1 R1c2)
  have n0 : ¬ w.heap.size = w1.heap.size := by omega
  have l0 : w.heap.size < w1.heap.size := by omega
  have n1 : ¬ w.heap.size = w1.heap.size + 1 := by omega
  have l1 : w.heap.size < w1.heap.size + 1 := by omega
  have n2 : ¬ w.heap.size = w1.heap.size + 1 + 1 := by omega
  have l2 : w.heap.size < w1.heap.size + 1 + 1 := by omega
  have n3 : ¬ w.heap.size = w1.heap.size + 1 + 1 + 1 := by omega
  have l3 : w.heap.size < w1.heap.size + 1 + 1 + 1 := by omega
  have n4 : ¬ w.heap.size = w1.heap.size + 1 + 1 + 1 + 1 := by omega
  have l4 : w.heap.size < w1.heap.size + 1 + 1 + 1 + 1 := by omega
  have n5 : ¬ w.heap.size = w1.heap.size + 1 + 1 + 1 + 1 + 1 := by omega
  have l5 : w.heap.size < w1.heap.size + 1 + 1 + 1 + 1 + 1 := by omega
  have n6 : ¬ w.heap.size = w1.heap.size + 1 + 1 + 1 + 1 + 1 + 1 := by omega
  have l6 : w.heap.size < w1.heap.size + 1 + 1 + 1 + 1 + 1 + 1 := by omega
  go_wp2
  go_rounds 5
  exact bodyPost_ret (by simp [results, Try.results46, go_sem, *]; repeat (first | exact rfl | refine And.intro ?_ ?_)) rfl ⟨rfl, (by repeat (first | (with_reducible exact b_refl _) | (with_reducible refine b_alloc ?_ _) | (with_reducible refine b_drew ?_) | (with_reducible refine b_drewN ?_ _) | (with_reducible refine b_set ?_ ?_ _) | (with_reducible refine b_trans ?_ (by assumption)) | (with_reducible refine b_only ?_ (by assumption) ?_) | omega | (focus (simp; done)) | (focus (simp; omega))))⟩
set_option maxHeartbeats 2000000 in
theorem find_1 (w : World) : Calls Try.prog 46 #[.int .i64 1] w fun e w' => e = .returned (.tuple #[.agg #[.int .i64 5, .int .i64 1, .int .i64 0], .bool true]) ∧ Below w.heap.size w w' := by
  have i0 := kidx_0
  have i1 := kidx_1
  have i2 := kidx_2
  have i3 := kidx_3
  have i4 := kidx_4
  have i5 := kidx_5
  go_enter Try.func46, Try.ntmps46
  go_wp2_with fail
  (with_reducible refine (irqKinds_any _).mono ?_); rintro e w1 ⟨rfl, hb1⟩; have hz1 := hb1.size; (try simp at hz1); have R1 := (Blk.new w _ _).below hb1 (by first | omega | (simp; done) | (simp; omega)); have R1l := R1.lt; have R1c0 := R1.cell 0; have R1f0 := R1.frozen 0; have R1c1 := R1.cell 1; have R1f1 := R1.frozen 1; have R1c2 := R1.cell 2; have R1f2 := R1.frozen 2; (try simp at R1c0 R1c1 R1c2)
  have n0 : ¬ w.heap.size = w1.heap.size := by omega
  have l0 : w.heap.size < w1.heap.size := by omega
  have n1 : ¬ w.heap.size = w1.heap.size + 1 := by omega
  have l1 : w.heap.size < w1.heap.size + 1 := by omega
  have n2 : ¬ w.heap.size = w1.heap.size + 1 + 1 := by omega
  have l2 : w.heap.size < w1.heap.size + 1 + 1 := by omega
  have n3 : ¬ w.heap.size = w1.heap.size + 1 + 1 + 1 := by omega
  have l3 : w.heap.size < w1.heap.size + 1 + 1 + 1 := by omega
  have n4 : ¬ w.heap.size = w1.heap.size + 1 + 1 + 1 + 1 := by omega
  have l4 : w.heap.size < w1.heap.size + 1 + 1 + 1 + 1 := by omega
  have n5 : ¬ w.heap.size = w1.heap.size + 1 + 1 + 1 + 1 + 1 := by omega
  have l5 : w.heap.size < w1.heap.size + 1 + 1 + 1 + 1 + 1 := by omega
  have n6 : ¬ w.heap.size = w1.heap.size + 1 + 1 + 1 + 1 + 1 + 1 := by omega
  have l6 : w.heap.size < w1.heap.size + 1 + 1 + 1 + 1 + 1 + 1 := by omega
  go_wp2
  go_rounds 6
  exact bodyPost_ret (by simp [results, Try.results46, go_sem, *]; repeat (first | exact rfl | refine And.intro ?_ ?_)) rfl ⟨rfl, (by repeat (first | (with_reducible exact b_refl _) | (with_reducible refine b_alloc ?_ _) | (with_reducible refine b_drew ?_) | (with_reducible refine b_drewN ?_ _) | (with_reducible refine b_set ?_ ?_ _) | (with_reducible refine b_trans ?_ (by assumption)) | (with_reducible refine b_only ?_ (by assumption) ?_) | omega | (focus (simp; done)) | (focus (simp; omega))))⟩
theorem rank_6 (w : World) : Calls Try.prog 17 #[.int .i64 6] w fun e w' => e = .returned (.int .i64 0) ∧ Below w.heap.size w w' := by
  go_enter Try.func17, Try.ntmps17
  go_wp2_with fail
  (with_reducible refine (find_6 _).mono ?_); rintro e w1 ⟨rfl, hb1⟩; have hz1 := hb1.size; (try simp at hz1)
  go_wp2
  go_ret
  exact ⟨rfl, (by repeat (first | (with_reducible exact b_refl _) | (with_reducible refine b_alloc ?_ _) | (with_reducible refine b_drew ?_) | (with_reducible refine b_drewN ?_ _) | (with_reducible refine b_set ?_ ?_ _) | (with_reducible refine b_trans ?_ (by assumption)) | (with_reducible refine b_only ?_ (by assumption) ?_) | omega | (focus (simp; done)) | (focus (simp; omega))))⟩
theorem rank_4 (w : World) : Calls Try.prog 17 #[.int .i64 4] w fun e w' => e = .returned (.int .i64 1) ∧ Below w.heap.size w w' := by
  go_enter Try.func17, Try.ntmps17
  go_wp2_with fail
  (with_reducible refine (find_4 _).mono ?_); rintro e w1 ⟨rfl, hb1⟩; have hz1 := hb1.size; (try simp at hz1)
  go_wp2
  go_ret
  exact ⟨rfl, (by repeat (first | (with_reducible exact b_refl _) | (with_reducible refine b_alloc ?_ _) | (with_reducible refine b_drew ?_) | (with_reducible refine b_drewN ?_ _) | (with_reducible refine b_set ?_ ?_ _) | (with_reducible refine b_trans ?_ (by assumption)) | (with_reducible refine b_only ?_ (by assumption) ?_) | omega | (focus (simp; done)) | (focus (simp; omega))))⟩
theorem rank_12 (w : World) : Calls Try.prog 17 #[.int .i64 12] w fun e w' => e = .returned (.int .i64 2) ∧ Below w.heap.size w w' := by
  go_enter Try.func17, Try.ntmps17
  go_wp2_with fail
  (with_reducible refine (find_12 _).mono ?_); rintro e w1 ⟨rfl, hb1⟩; have hz1 := hb1.size; (try simp at hz1)
  go_wp2
  go_ret
  exact ⟨rfl, (by repeat (first | (with_reducible exact b_refl _) | (with_reducible refine b_alloc ?_ _) | (with_reducible refine b_drew ?_) | (with_reducible refine b_drewN ?_ _) | (with_reducible refine b_set ?_ ?_ _) | (with_reducible refine b_trans ?_ (by assumption)) | (with_reducible refine b_only ?_ (by assumption) ?_) | omega | (focus (simp; done)) | (focus (simp; omega))))⟩
theorem rank_2 (w : World) : Calls Try.prog 17 #[.int .i64 2] w fun e w' => e = .returned (.int .i64 3) ∧ Below w.heap.size w w' := by
  go_enter Try.func17, Try.ntmps17
  go_wp2_with fail
  (with_reducible refine (find_2 _).mono ?_); rintro e w1 ⟨rfl, hb1⟩; have hz1 := hb1.size; (try simp at hz1)
  go_wp2
  go_ret
  exact ⟨rfl, (by repeat (first | (with_reducible exact b_refl _) | (with_reducible refine b_alloc ?_ _) | (with_reducible refine b_drew ?_) | (with_reducible refine b_drewN ?_ _) | (with_reducible refine b_set ?_ ?_ _) | (with_reducible refine b_trans ?_ (by assumption)) | (with_reducible refine b_only ?_ (by assumption) ?_) | omega | (focus (simp; done)) | (focus (simp; omega))))⟩
theorem rank_0 (w : World) : Calls Try.prog 17 #[.int .i64 0] w fun e w' => e = .returned (.int .i64 4) ∧ Below w.heap.size w w' := by
  go_enter Try.func17, Try.ntmps17
  go_wp2_with fail
  (with_reducible refine (find_0 _).mono ?_); rintro e w1 ⟨rfl, hb1⟩; have hz1 := hb1.size; (try simp at hz1)
  go_wp2
  go_ret
  exact ⟨rfl, (by repeat (first | (with_reducible exact b_refl _) | (with_reducible refine b_alloc ?_ _) | (with_reducible refine b_drew ?_) | (with_reducible refine b_drewN ?_ _) | (with_reducible refine b_set ?_ ?_ _) | (with_reducible refine b_trans ?_ (by assumption)) | (with_reducible refine b_only ?_ (by assumption) ?_) | omega | (focus (simp; done)) | (focus (simp; omega))))⟩
theorem rank_1 (w : World) : Calls Try.prog 17 #[.int .i64 1] w fun e w' => e = .returned (.int .i64 5) ∧ Below w.heap.size w w' := by
  go_enter Try.func17, Try.ntmps17
  go_wp2_with fail
  (with_reducible refine (find_1 _).mono ?_); rintro e w1 ⟨rfl, hb1⟩; have hz1 := hb1.size; (try simp at hz1)
  go_wp2
  go_ret
  exact ⟨rfl, (by repeat (first | (with_reducible exact b_refl _) | (with_reducible refine b_alloc ?_ _) | (with_reducible refine b_drew ?_) | (with_reducible refine b_drewN ?_ _) | (with_reducible refine b_set ?_ ?_ _) | (with_reducible refine b_trans ?_ (by assumption)) | (with_reducible refine b_only ?_ (by assumption) ?_) | omega | (focus (simp; done)) | (focus (simp; omega))))⟩
theorem bit_6 (w : World) : Calls Try.prog 16 #[.int .i64 6] w fun e w' => e = .returned (.int .i64 4) ∧ Below w.heap.size w w' := by
  go_enter Try.func16, Try.ntmps16
  go_wp2_with fail
  (with_reducible refine (find_6 _).mono ?_); rintro e w1 ⟨rfl, hb1⟩; have hz1 := hb1.size; (try simp at hz1)
  go_wp2
  go_ret
  exact ⟨rfl, (by repeat (first | (with_reducible exact b_refl _) | (with_reducible refine b_alloc ?_ _) | (with_reducible refine b_drew ?_) | (with_reducible refine b_drewN ?_ _) | (with_reducible refine b_set ?_ ?_ _) | (with_reducible refine b_trans ?_ (by assumption)) | (with_reducible refine b_only ?_ (by assumption) ?_) | omega | (focus (simp; done)) | (focus (simp; omega))))⟩
theorem bit_4 (w : World) : Calls Try.prog 16 #[.int .i64 4] w fun e w' => e = .returned (.int .i64 1) ∧ Below w.heap.size w w' := by
  go_enter Try.func16, Try.ntmps16
  go_wp2_with fail
  (with_reducible refine (find_4 _).mono ?_); rintro e w1 ⟨rfl, hb1⟩; have hz1 := hb1.size; (try simp at hz1)
  go_wp2
  go_ret
  exact ⟨rfl, (by repeat (first | (with_reducible exact b_refl _) | (with_reducible refine b_alloc ?_ _) | (with_reducible refine b_drew ?_) | (with_reducible refine b_drewN ?_ _) | (with_reducible refine b_set ?_ ?_ _) | (with_reducible refine b_trans ?_ (by assumption)) | (with_reducible refine b_only ?_ (by assumption) ?_) | omega | (focus (simp; done)) | (focus (simp; omega))))⟩
theorem bit_12 (w : World) : Calls Try.prog 16 #[.int .i64 12] w fun e w' => e = .returned (.int .i64 1) ∧ Below w.heap.size w w' := by
  go_enter Try.func16, Try.ntmps16
  go_wp2_with fail
  (with_reducible refine (find_12 _).mono ?_); rintro e w1 ⟨rfl, hb1⟩; have hz1 := hb1.size; (try simp at hz1)
  go_wp2
  go_ret
  exact ⟨rfl, (by repeat (first | (with_reducible exact b_refl _) | (with_reducible refine b_alloc ?_ _) | (with_reducible refine b_drew ?_) | (with_reducible refine b_drewN ?_ _) | (with_reducible refine b_set ?_ ?_ _) | (with_reducible refine b_trans ?_ (by assumption)) | (with_reducible refine b_only ?_ (by assumption) ?_) | omega | (focus (simp; done)) | (focus (simp; omega))))⟩
theorem bit_2 (w : World) : Calls Try.prog 16 #[.int .i64 2] w fun e w' => e = .returned (.int .i64 2) ∧ Below w.heap.size w w' := by
  go_enter Try.func16, Try.ntmps16
  go_wp2_with fail
  (with_reducible refine (find_2 _).mono ?_); rintro e w1 ⟨rfl, hb1⟩; have hz1 := hb1.size; (try simp at hz1)
  go_wp2
  go_ret
  exact ⟨rfl, (by repeat (first | (with_reducible exact b_refl _) | (with_reducible refine b_alloc ?_ _) | (with_reducible refine b_drew ?_) | (with_reducible refine b_drewN ?_ _) | (with_reducible refine b_set ?_ ?_ _) | (with_reducible refine b_trans ?_ (by assumption)) | (with_reducible refine b_only ?_ (by assumption) ?_) | omega | (focus (simp; done)) | (focus (simp; omega))))⟩
theorem bit_0 (w : World) : Calls Try.prog 16 #[.int .i64 0] w fun e w' => e = .returned (.int .i64 8) ∧ Below w.heap.size w w' := by
  go_enter Try.func16, Try.ntmps16
  go_wp2_with fail
  (with_reducible refine (find_0 _).mono ?_); rintro e w1 ⟨rfl, hb1⟩; have hz1 := hb1.size; (try simp at hz1)
  go_wp2
  go_ret
  exact ⟨rfl, (by repeat (first | (with_reducible exact b_refl _) | (with_reducible refine b_alloc ?_ _) | (with_reducible refine b_drew ?_) | (with_reducible refine b_drewN ?_ _) | (with_reducible refine b_set ?_ ?_ _) | (with_reducible refine b_trans ?_ (by assumption)) | (with_reducible refine b_only ?_ (by assumption) ?_) | omega | (focus (simp; done)) | (focus (simp; omega))))⟩
theorem bit_1 (w : World) : Calls Try.prog 16 #[.int .i64 1] w fun e w' => e = .returned (.int .i64 0) ∧ Below w.heap.size w w' := by
  go_enter Try.func16, Try.ntmps16
  go_wp2_with fail
  (with_reducible refine (find_1 _).mono ?_); rintro e w1 ⟨rfl, hb1⟩; have hz1 := hb1.size; (try simp at hz1)
  go_wp2
  go_ret
  exact ⟨rfl, (by repeat (first | (with_reducible exact b_refl _) | (with_reducible refine b_alloc ?_ _) | (with_reducible refine b_drew ?_) | (with_reducible refine b_drewN ?_ _) | (with_reducible refine b_set ?_ ?_ _) | (with_reducible refine b_trans ?_ (by assumption)) | (with_reducible refine b_only ?_ (by assumption) ?_) | omega | (focus (simp; done)) | (focus (simp; omega))))⟩
end Go.Proofs.Ytflimlalccmdnaa
