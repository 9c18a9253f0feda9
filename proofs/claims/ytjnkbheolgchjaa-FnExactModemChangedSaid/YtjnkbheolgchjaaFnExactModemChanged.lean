/-
  FnExactModemChanged returns true for all lines: the program's ModemChanged is the reference's.
-/
import Derived.Test.YtjnkbheolgchjaaRowModem
set_option linter.unusedVariables false
set_option linter.unusedSimpArgs false
namespace Go.Proofs.Ytjnkbheolgchjaa
open Go.ChangeShapes Go.WideShapes Go.ChangeAt Go.RowKit

set_option maxHeartbeats 1000000 in
theorem FnExactModemChanged_calls (a b c d : Bool) (w : World) : Calls Try.prog 3 #[.agg #[.bool a, .bool b, .bool c, .bool d]] w fun e w' => e = .returned (.bool true) ∧ Below w.heap.size w w' := by
  go_enter Try.func3, Try.ntmps3
  go_wp2_with fail
  (with_reducible refine (toModem_any a b c d _).mono ?_); rintro e w1 ⟨rfl, hb1⟩; have hz1 := hb1.size; (try simp at hz1); have F1 := (Blk.new _ _ _).below hb1 (by first | omega | (simp; done) | (simp; omega)); have F1l := F1.lt; have F1c0 := F1.cell 0; have F1f0 := F1.frozen 0; have F1c1 := F1.cell 1; have F1f1 := F1.frozen 1; have F1c2 := F1.cell 2; have F1f2 := F1.frozen 2; have F1c3 := F1.cell 3; have F1f3 := F1.frozen 3; (try simp at F1c0 F1c1 F1c2 F1c3)
  go_wp2_with fail
  (with_reducible refine (spec_ModemChanged _ _ _ _ _).mono ?_); rintro e w2 ⟨rfl, hb2⟩; have hz2 := hb2.size; (try simp at hz2); have F2 := (F1).below hb2 (by first | omega | (simp; done) | (simp; omega)); have F2l := F2.lt; have F2c0 := F2.cell 0; have F2f0 := F2.frozen 0; have F2c1 := F2.cell 1; have F2f1 := F2.frozen 1; have F2c2 := F2.cell 2; have F2f2 := F2.frozen 2; have F2c3 := F2.cell 3; have F2f3 := F2.frozen 3; (try simp at F2c0 F2c1 F2c2 F2c3)
  go_wp2_with fail
  (with_reducible refine (toModem_any a b c d _).mono ?_); rintro e w3 ⟨rfl, hb3⟩; have hz3 := hb3.size; (try simp at hz3); have F3 := (F2).below hb3 (by first | omega | (simp; done) | (simp; omega)); have F3l := F3.lt; have F3c0 := F3.cell 0; have F3f0 := F3.frozen 0; have F3c1 := F3.cell 1; have F3f1 := F3.frozen 1; have F3c2 := F3.cell 2; have F3f2 := F3.frozen 2; have F3c3 := F3.cell 3; have F3f3 := F3.frozen 3; (try simp at F3c0 F3c1 F3c2 F3c3)
  go_wp2_with fail
  (with_reducible refine (impl_ModemChanged _ _ _ _ _).mono ?_); rintro e w4 ⟨rfl, hb4⟩; have hz4 := hb4.size; (try simp at hz4)
  go_wp2
  go_ret
  exact ⟨rfl, (by repeat (first | (with_reducible exact b_refl _) | (with_reducible refine b_alloc ?_ _) | (with_reducible refine b_drew ?_) | (with_reducible refine b_drewN ?_ _) | (with_reducible refine b_set ?_ ?_ _) | (with_reducible refine b_trans ?_ (by assumption)) | (with_reducible refine b_only ?_ (by assumption) ?_) | omega | (focus (simp; done)) | (focus (simp; omega))))⟩
set_option maxRecDepth 100000 in
theorem FnExactModemChanged_lifted (os : Os) (started : os.Started) (H : Type) (enc : TypeId × Value → H) :
    ReturnsInHanded {} Try.checked os 3 .any (Rows.fnExactModemChangedSpec.pre6 enc Try.prog Try.f3 Rows.fnExactModemChangedRow.domain false) (Rows.fnExactModemChangedSpec.post enc Try.prog Try.f3 false true false false) := by
  refine returnsInHanded_of_change (C := Try.checked) own started (by kernel_rfl) Try.func3
    (ChangeSpec.witness6 (enc := enc) (C := Try.checked) false ⟨#[], #[.agg #[.bool false, .bool false, .bool false, .bool false]], []⟩ 8 (by kernel_rfl) (by kernel_rfl) (by kernel_rfl) (by kernel_rfl)) ?_
  intro W base args ds gs before hval0 hW _ _
  have hval : ∀ (j : Nat) t v, Try.f3.params[j]? = some t → args[j]? = some v → Value.okWide Try.prog W .any base t v := hval0
  have hW2 := hW
  obtain ⟨p, q, hA0, hV, rfl, _, _⟩ := hW2
  have hA : DataW.TrodAll enc Try.prog W 0 (fun _ => true) true Try.f3.params.toList args.toList ds p := hA0
  rw [Try.params3] at hA hval
  obtain ⟨v0, d0, rfl, rfl, h0⟩ := trodAll_one hA
  obtain ⟨rfl, rfl⟩ := trodVars_none hV
  obtain ⟨a, b, c, d, rfl⟩ := open_modem (hval 0 _ v0 rfl rfl) h0
  refine (FnExactModemChanged_calls a b c d W).mono fun e W' ⟨he, hb⟩ => ?_
  subst he
  exact ⟨_, rfl, law_post (f := Try.f3) (s := Rows.fnExactModemChangedSpec) 4 laid_out (by kernel_rfl) rfl (by kernel_rfl) Try.underlying4 hW rfl hb⟩
theorem FnExactModemChanged_holds : Rows.FnExactModemChangedSaid :=
  OpenClaim.holds_of_wide 3 Try.f3 rfl rfl rfl rfl rfl rfl rfl ⟨rfl, rfl, rfl, rfl, rfl⟩ rfl rfl rfl rfl rfl (by kernel_rfl) Try.func3 (by kernel_rfl)
    (of_decide_eq_true (by kernel_rfl)) (by unfold Func.isWrapper; rw [if_neg (of_decide_eq_false (by kernel_rfl))]; exact ⟨rfl, rfl⟩)
    (fun os started H enc _ => FnExactModemChanged_lifted os started H enc)

end Go.Proofs.Ytjnkbheolgchjaa
