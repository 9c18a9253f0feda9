/-
  FnExactFlowValid returns true for all limits: the program's FlowValid is the reference's.
-/
import Derived.Test.YtgnoceofabkfcaaFlow
import Derived.Test.YtgnoceofabkfcaaRowFlow
set_option linter.unusedVariables false
set_option linter.unusedSimpArgs false
namespace Go.Proofs.Ytgnoceofabkfcaa
open Go.ChangeShapes Go.WideShapes Go.ChangeAt Go.RowKit

set_option maxHeartbeats 1000000 in
theorem FnExactFlowValid_calls (a b : Int) (w : World) : Calls Try.prog 3 #[.agg #[.int .i64 a, .int .i64 b]] w fun e w' => e = .returned (.bool true) ∧ Below w.heap.size w w' := by
  go_enter Try.func3, Try.ntmps3
  go_wp2_with fail
  (with_reducible refine (toFlow_any a b _).mono ?_); rintro e w1 ⟨rfl, hb1⟩; have hz1 := hb1.size; (try simp at hz1); have F1 := (Blk.new _ _ _).below hb1 (by first | omega | (simp; done) | (simp; omega)); have F1l := F1.lt; have F1c0 := F1.cell 0; have F1f0 := F1.frozen 0; have F1c1 := F1.cell 1; have F1f1 := F1.frozen 1; (try simp at F1c0 F1c1)
  go_wp2_with fail
  (with_reducible refine (spec_FlowValid _ _ _).mono ?_); rintro e w2 ⟨rfl, hb2⟩; have hz2 := hb2.size; (try simp at hz2); have F2 := (F1).below hb2 (by first | omega | (simp; done) | (simp; omega)); have F2l := F2.lt; have F2c0 := F2.cell 0; have F2f0 := F2.frozen 0; have F2c1 := F2.cell 1; have F2f1 := F2.frozen 1; (try simp at F2c0 F2c1)
  go_wp2_with fail
  (with_reducible refine (toFlow_any a b _).mono ?_); rintro e w3 ⟨rfl, hb3⟩; have hz3 := hb3.size; (try simp at hz3); have F3 := (F2).below hb3 (by first | omega | (simp; done) | (simp; omega)); have F3l := F3.lt; have F3c0 := F3.cell 0; have F3f0 := F3.frozen 0; have F3c1 := F3.cell 1; have F3f1 := F3.frozen 1; (try simp at F3c0 F3c1)
  go_wp2_with fail
  (with_reducible refine (impl_FlowValid _ _ _).mono ?_); rintro e w4 ⟨rfl, hb4⟩; have hz4 := hb4.size; (try simp at hz4)
  go_wp2
  go_ret
  exact ⟨rfl, (by repeat (first | (with_reducible exact b_refl _) | (with_reducible refine b_alloc ?_ _) | (with_reducible refine b_drew ?_) | (with_reducible refine b_drewN ?_ _) | (with_reducible refine b_set ?_ ?_ _) | (with_reducible refine b_trans ?_ (by assumption)) | (with_reducible refine b_only ?_ (by assumption) ?_) | omega | (focus (simp; done)) | (focus (simp; omega))))⟩
set_option maxRecDepth 100000 in
theorem FnExactFlowValid_lifted (os : Os) (started : os.Started) (H : Type) (enc : TypeId × Value → H) :
    ReturnsInHanded {} Try.checked os 3 .any (Rows.fnExactFlowValidSpec.pre6 enc Try.prog Try.f3 Rows.fnExactFlowValidRow.domain false) (Rows.fnExactFlowValidSpec.post enc Try.prog Try.f3 false true false false) := by
  refine returnsInHanded_of_change (C := Try.checked) own started (by kernel_rfl) Try.func3
    (ChangeSpec.witness6 (enc := enc) (C := Try.checked) false ⟨#[], #[.agg #[.int .i64 0, .int .i64 0]], []⟩ 8 (by kernel_rfl) (by kernel_rfl) (by kernel_rfl) (by kernel_rfl)) ?_
  intro W base args ds gs before hval0 hW _ _
  have hval : ∀ (j : Nat) t v, Try.f3.params[j]? = some t → args[j]? = some v → Value.okWide Try.prog W .any base t v := hval0
  have hW2 := hW
  obtain ⟨p, q, hA0, hV, rfl, _, _⟩ := hW2
  have hA : DataW.TrodAll enc Try.prog W 0 (fun _ => true) true Try.f3.params.toList args.toList ds p := hA0
  rw [Try.params3] at hA hval
  obtain ⟨v0, d0, rfl, rfl, h0⟩ := trodAll_one hA
  obtain ⟨rfl, rfl⟩ := trodVars_none hV
  obtain ⟨a, b, rfl⟩ := open_flow (hval 0 _ v0 rfl rfl) h0
  refine (FnExactFlowValid_calls a b W).mono fun e W' ⟨he, hb⟩ => ?_
  subst he
  exact ⟨_, rfl, law_post (f := Try.f3) (s := Rows.fnExactFlowValidSpec) 4 laid_out (by kernel_rfl) rfl (by kernel_rfl) Try.underlying4 hW rfl hb⟩
theorem FnExactFlowValid_holds : Rows.FnExactFlowValidSaid :=
  OpenClaim.holds_of_wide 3 Try.f3 rfl rfl rfl rfl rfl rfl rfl ⟨rfl, rfl, rfl, rfl, rfl⟩ rfl rfl rfl rfl rfl (by kernel_rfl) Try.func3 (by kernel_rfl)
    (of_decide_eq_true (by kernel_rfl)) (by unfold Func.isWrapper; rw [if_neg (of_decide_eq_false (by kernel_rfl))]; exact ⟨rfl, rfl⟩)
    (fun os started H enc _ => FnExactFlowValid_lifted os started H enc)

end Go.Proofs.Ytgnoceofabkfcaa
