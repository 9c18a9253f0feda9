/-
  Lines (laws.Modem) as they come in; toModem, eqModem.
-/
import Derived.Test.YtjnkbheolgchjaaRow
import Derived.Test.YtjnkbheolgchjaaModemGo
import Derived.Lib.SmallJoins
set_option linter.unusedVariables false
set_option linter.unusedSimpArgs false
namespace Go.Proofs.Ytjnkbheolgchjaa
open Go.ChangeShapes Go.WideShapes Go.ChangeAt Go.RowKit Go.Joins

theorem open_modem {H : Type} {enc : TypeId × Value → H} {W : World} {r : Reach} {b0 : Nat} {v : Value} {d : DataW H} {ps : List MemPlace}
    (hv : Value.okWide Try.prog W r b0 23 v) (h : DataW.Trod enc Try.prog W 0 (fun _ => true) true 23 v d ps) : ∃ a b c d : Bool, v = .agg #[.bool a, .bool b, .bool c, .bool d] := by
  obtain ⟨c0, c1, c2, c3, y0, y1, y2, y3, m, rfl, _, _, hy0, hy1, hy2, hy3⟩ := open_agg4 Try.underlying23 (by kernel_rfl) (by kernel_rfl) hv h
  obtain ⟨a, e0, _⟩ := DataW.trod_bool Try.underlying4 hy0
  obtain ⟨b, e1, _⟩ := DataW.trod_bool Try.underlying4 hy1
  obtain ⟨c, e2, _⟩ := DataW.trod_bool Try.underlying4 hy2
  obtain ⟨d, e3, _⟩ := DataW.trod_bool Try.underlying4 hy3
  simp at e0 e1 e2 e3
  subst e0; subst e1; subst e2; subst e3
  exact ⟨a, b, c, d, rfl⟩
theorem toModem_any (a b c d : Bool) (w : World) : Calls Try.prog 12 #[.agg #[.bool a, .bool b, .bool c, .bool d]] w fun e w' => e = .returned (.agg #[.bool a, .bool b, .bool c, .bool d]) ∧ Below w.heap.size w w' := by
  go_enter Try.func12, Try.ntmps12
  go_wp2
  exact bodyPost_ret (by simp [results, Try.results12, go_sem, *]; repeat (first | exact rfl | refine And.intro ?_ ?_)) rfl ⟨rfl, (by repeat (first | (with_reducible exact b_refl _) | (with_reducible refine b_alloc ?_ _) | (with_reducible refine b_drew ?_) | (with_reducible refine b_drewN ?_ _) | (with_reducible refine b_set ?_ ?_ _) | (with_reducible refine b_trans ?_ (by assumption)) | (with_reducible refine b_only ?_ (by assumption) ?_) | omega | (focus (simp; done)) | (focus (simp; omega))))⟩
theorem eqModem_any (a b c d : Bool) (w : World) : Calls Try.prog 16 #[.agg #[.bool a, .bool b, .bool c, .bool d], .agg #[.bool a, .bool b, .bool c, .bool d]] w fun e w' => e = .returned (.bool true) ∧ Below w.heap.size w w' := by
  go_enter Try.func16, Try.ntmps16
  go_wp2
  go_ret
  exact ⟨rfl, (by repeat (first | (with_reducible exact b_refl _) | (with_reducible refine b_alloc ?_ _) | (with_reducible refine b_drew ?_) | (with_reducible refine b_drewN ?_ _) | (with_reducible refine b_set ?_ ?_ _) | (with_reducible refine b_trans ?_ (by assumption)) | (with_reducible refine b_only ?_ (by assumption) ?_) | omega | (focus (simp; done)) | (focus (simp; omega))))⟩
set_option maxHeartbeats 4000000 in
theorem spec_ModemRead (a b c d : Bool) (w : World) : Calls Try.prog 19 #[.agg #[.bool a, .bool b, .bool c, .bool d]] w fun e w' => e = .returned (.tuple #[.agg #[.bool a, .bool b, .bool false, .bool false], .int .i64 (modemBits a b c d)]) ∧ Below w.heap.size w w' := by
  go_enter Try.func19, Try.ntmps19
  cases a <;> cases b <;> cases c <;> cases d
  all_goals go_wp2
  all_goals exact bodyPost_ret (by simp [results, Try.results19, go_sem, *]; repeat (first | exact rfl | refine And.intro ?_ ?_)) rfl ⟨by simp [modemBits, b1], (by repeat (first | (with_reducible exact b_refl _) | (with_reducible refine b_alloc ?_ _) | (with_reducible refine b_drew ?_) | (with_reducible refine b_drewN ?_ _) | (with_reducible refine b_set ?_ ?_ _) | (with_reducible refine b_trans ?_ (by assumption)) | (with_reducible refine b_only ?_ (by assumption) ?_) | omega | (focus (simp; done)) | (focus (simp; omega))))⟩
end Go.Proofs.Ytjnkbheolgchjaa
