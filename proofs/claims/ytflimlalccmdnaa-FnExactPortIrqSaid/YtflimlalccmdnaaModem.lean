/-
  LINES OF THE OTHER SIDE: what ModemSet, ModemRead, ModemChanged (the program's and the reference's) return.
-/
import Derived.Test.YtflimlalccmdnaaRead
import Derived.Handy
set_option linter.unusedVariables false
set_option linter.unusedSimpArgs false
namespace Go.Proofs.Ytflimlalccmdnaa
open Go.ChangeShapes Go.WideShapes Go.ChangeAt Go.RowKit
set_option maxHeartbeats 1000000 in
theorem impl_modemLines (g : Nat) (w : World) : Calls Try.prog 61 #[.pointer (some ⟨g, 0, none⟩)] w fun e w' => e = .returned (.agg #[.pointer (some ⟨g, 0, none⟩), .pointer (some ⟨g, 2, none⟩), .pointer (some ⟨g, 1, none⟩), .pointer (some ⟨g, 3, none⟩)]) ∧ Below w.heap.size w w' := by
  go_enter Try.func61, Try.ntmps61
  go_wp2
  go_region
  go_wp2
  exact bodyPost_ret (by simp [results, Try.results61, go_sem, *]; repeat (first | exact rfl | refine And.intro ?_ ?_)) rfl ⟨rfl, (by repeat (first | (with_reducible exact b_refl _) | (with_reducible refine b_alloc ?_ _) | (with_reducible refine b_drew ?_) | (with_reducible refine b_drewN ?_ _) | (with_reducible refine b_set ?_ ?_ _) | (with_reducible refine b_trans ?_ (by assumption)) | (with_reducible refine b_only ?_ (by assumption) ?_) | omega | (focus (simp; done)) | (focus (simp; omega))))⟩
theorem idx0 (a b c d : Value) (w : World) : (Instr.index 98 (.agg #[a, b, c, d]) (.int .i64 0)).run Try.prog w = .ok (.agg #[a, b]) w := by kernel_rfl
theorem idx1 (a b c d : Value) (w : World) : (Instr.index 98 (.agg #[a, b, c, d]) (.int .i64 1)).run Try.prog w = .ok (.agg #[c, d]) w := by kernel_rfl
theorem spec_ModemChanged (a b c d : Bool) (w : World) : Calls Try.prog 23 #[.agg #[.bool a, .bool b, .bool c, .bool d]] w fun e w' => e = .returned (.bool (c || d)) ∧ Below w.heap.size w w' := by
  go_enter Try.func23, Try.ntmps23
  go_wp2
  all_goals go_ret
  all_goals exact ⟨ret_bool (by simp_all), (by repeat (first | (with_reducible exact b_refl _) | (with_reducible refine b_alloc ?_ _) | (with_reducible refine b_drew ?_) | (with_reducible refine b_drewN ?_ _) | (with_reducible refine b_set ?_ ?_ _) | (with_reducible refine b_trans ?_ (by assumption)) | (with_reducible refine b_only ?_ (by assumption) ?_) | omega | (focus (simp; done)) | (focus (simp; omega))))⟩
set_option maxHeartbeats 1000000 in
theorem impl_ModemChanged (a b c d : Bool) (w : World) : Calls Try.prog 32 #[.agg #[.bool a, .bool b, .bool c, .bool d]] w fun e w' => e = .returned (.bool (c || d)) ∧ Below w.heap.size w w' := by
  have i0 := idx0
  have i1 := idx1
  go_enter Try.func32, Try.ntmps32
  go_wp2_with (go_at_call 61; go_must ((with_reducible refine (impl_modemLines _ _).mono ?_); rintro e w1 ⟨rfl, hb1⟩; have hz1 := hb1.size; (try simp at hz1); have M1 := (Blk.new _ _ _).below hb1 (by first | omega | (simp; done) | (simp; omega)); have M1l := M1.lt; have M1c0 := M1.cell 0; have M1f0 := M1.frozen 0; have M1c1 := M1.cell 1; have M1f1 := M1.frozen 1; have M1c2 := M1.cell 2; have M1f2 := M1.frozen 2; have M1c3 := M1.cell 3; have M1f3 := M1.frozen 3; (try simp at M1c0 M1c1 M1c2 M1c3)))
  go_rounds 3
  all_goals go_ret
  all_goals (refine ⟨ret_bool ?_, (by repeat (first | (with_reducible exact b_refl _) | (with_reducible refine b_alloc ?_ _) | (with_reducible refine b_drew ?_) | (with_reducible refine b_drewN ?_ _) | (with_reducible refine b_set ?_ ?_ _) | (with_reducible refine b_trans ?_ (by assumption)) | (with_reducible refine b_only ?_ (by assumption) ?_) | omega | (focus (simp; done)) | (focus (simp; omega))))⟩; simp_all)
end Go.Proofs.Ytflimlalccmdnaa
