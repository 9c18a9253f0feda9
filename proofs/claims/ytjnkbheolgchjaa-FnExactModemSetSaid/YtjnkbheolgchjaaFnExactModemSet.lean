/-
  FnExactModemSet returns true for all lines and settings: the program's ModemSet is the reference's.
-/
import Derived.Test.YtjnkbheolgchjaaRowModem
set_option linter.unusedVariables false
set_option linter.unusedSimpArgs false
namespace Go.Proofs.Ytjnkbheolgchjaa
open Go.ChangeShapes Go.WideShapes Go.ChangeAt Go.RowKit

set_option maxHeartbeats 1000000 in
theorem FnExactModemSet_calls (a b c d x y : Bool) (w : World) : Calls Try.prog 4 #[.agg #[.bool a, .bool b, .bool c, .bool d], .bool x, .bool y] w fun e w' => e = .returned (.bool true) ∧ Below w.heap.size w w' := by
  go_enter Try.func4, Try.ntmps4
  go_wp2_with fail
  (with_reducible refine (toModem_any a b c d _).mono ?_); rintro e w1 ⟨rfl, hb1⟩; have hz1 := hb1.size; (try simp at hz1); have F1 := (Blk.new _ _ _).below hb1 (by first | omega | (simp; done) | (simp; omega)); have F1l := F1.lt; have F1c0 := F1.cell 0; have F1f0 := F1.frozen 0; have F1c1 := F1.cell 1; have F1f1 := F1.frozen 1; have F1c2 := F1.cell 2; have F1f2 := F1.frozen 2; have F1c3 := F1.cell 3; have F1f3 := F1.frozen 3; (try simp at F1c0 F1c1 F1c2 F1c3)
  go_wp2_with fail
  (with_reducible refine (spec_ModemSet _ _ _ _ _ _ _).mono ?_); rintro e w2 ⟨rfl, hb2⟩; have hz2 := hb2.size; (try simp at hz2); have F2 := (F1).below hb2 (by first | omega | (simp; done) | (simp; omega)); have F2l := F2.lt; have F2c0 := F2.cell 0; have F2f0 := F2.frozen 0; have F2c1 := F2.cell 1; have F2f1 := F2.frozen 1; have F2c2 := F2.cell 2; have F2f2 := F2.frozen 2; have F2c3 := F2.cell 3; have F2f3 := F2.frozen 3; (try simp at F2c0 F2c1 F2c2 F2c3)
  go_wp2_with fail
  (with_reducible refine (toModem_any a b c d _).mono ?_); rintro e w3 ⟨rfl, hb3⟩; have hz3 := hb3.size; (try simp at hz3); have F3 := (F2.alloc _).below hb3 (by first | omega | (simp; done) | (simp; omega)); have F3l := F3.lt; have F3c0 := F3.cell 0; have F3f0 := F3.frozen 0; have F3c1 := F3.cell 1; have F3f1 := F3.frozen 1; have F3c2 := F3.cell 2; have F3f2 := F3.frozen 2; have F3c3 := F3.cell 3; have F3f3 := F3.frozen 3; (try simp at F3c0 F3c1 F3c2 F3c3); have G3 := (Blk.new _ _ _).below hb3 (by first | omega | (simp; done) | (simp; omega)); have G3l := G3.lt; have G3c0 := G3.cell 0; have G3f0 := G3.frozen 0; have G3c1 := G3.cell 1; have G3f1 := G3.frozen 1; have G3c2 := G3.cell 2; have G3f2 := G3.frozen 2; have G3c3 := G3.cell 3; have G3f3 := G3.frozen 3; (try simp at G3c0 G3c1 G3c2 G3c3)
  go_wp2_with fail
  (with_reducible refine (impl_ModemSet _ _ _ _ _ _ _).mono ?_); rintro e w4 ⟨rfl, hb4⟩; have hz4 := hb4.size; (try simp at hz4); have G4 := (G3).below hb4 (by first | omega | (simp; done) | (simp; omega)); have G4l := G4.lt; have G4c0 := G4.cell 0; have G4f0 := G4.frozen 0; have G4c1 := G4.cell 1; have G4f1 := G4.frozen 1; have G4c2 := G4.cell 2; have G4f2 := G4.frozen 2; have G4c3 := G4.cell 3; have G4f3 := G4.frozen 3; (try simp at G4c0 G4c1 G4c2 G4c3)
  go_wp2_with fail
  (with_reducible refine (eqModem_any _ _ _ _ _).mono ?_); rintro e w5 ⟨rfl, hb5⟩; have hz5 := hb5.size; (try simp at hz5)
  go_wp2
  go_ret
  exact ⟨rfl, (by repeat (first | (with_reducible exact b_refl _) | (with_reducible refine b_alloc ?_ _) | (with_reducible refine b_drew ?_) | (with_reducible refine b_drewN ?_ _) | (with_reducible refine b_set ?_ ?_ _) | (with_reducible refine b_trans ?_ (by assumption)) | (with_reducible refine b_only ?_ (by assumption) ?_) | omega | (focus (simp; done)) | (focus (simp; omega))))⟩
set_option maxRecDepth 100000 in
theorem FnExactModemSet_lifted (os : Os) (started : os.Started) (H : Type) (enc : TypeId × Value → H) :
    ReturnsInHanded {} Try.checked os 4 .any (Rows.fnExactModemSetSpec.pre6 enc Try.prog Try.f4 Rows.fnExactModemSetRow.domain false) (Rows.fnExactModemSetSpec.post enc Try.prog Try.f4 false true false false) := by
  refine returnsInHanded_of_change (C := Try.checked) own started (by kernel_rfl) Try.func4
    (ChangeSpec.witness6 (enc := enc) (C := Try.checked) false ⟨#[], #[.agg #[.bool false, .bool false, .bool false, .bool false], .bool false, .bool false], []⟩ 8 (by kernel_rfl) (by kernel_rfl) (by kernel_rfl) (by kernel_rfl)) ?_
  intro W base args ds gs before hval0 hW _ _
  have hval : ∀ (j : Nat) t v, Try.f4.params[j]? = some t → args[j]? = some v → Value.okWide Try.prog W .any base t v := hval0
  have hW2 := hW
  obtain ⟨p, q, hA0, hV, rfl, _, _⟩ := hW2
  have hA : DataW.TrodAll enc Try.prog W 0 (fun _ => true) true Try.f4.params.toList args.toList ds p := hA0
  rw [Try.params4] at hA hval
  obtain ⟨v0, v1, v2, d0, d1, d2, p0, p1, p2, rfl, rfl, rfl, h0, h1, h2⟩ := trodAll_three hA
  obtain ⟨rfl, rfl⟩ := trodVars_none hV
  obtain ⟨a, b, c, d, rfl⟩ := open_modem (hval 0 _ v0 rfl rfl) h0; obtain ⟨x, rfl, rfl, rfl⟩ := open_bool Try.underlying4 (hval 1 _ v1 rfl rfl) h1; obtain ⟨y, rfl, rfl, rfl⟩ := open_bool Try.underlying4 (hval 2 _ v2 rfl rfl) h2
  refine (FnExactModemSet_calls a b c d x y W).mono fun e W' ⟨he, hb⟩ => ?_
  subst he
  exact ⟨_, rfl, law_post (f := Try.f4) (s := Rows.fnExactModemSetSpec) 4 laid_out (by kernel_rfl) rfl (by kernel_rfl) Try.underlying4 hW rfl hb⟩
theorem FnExactModemSet_holds : Rows.FnExactModemSetSaid :=
  OpenClaim.holds_of_wide 4 Try.f4 rfl rfl rfl rfl rfl rfl rfl ⟨rfl, rfl, rfl, rfl, rfl⟩ rfl rfl rfl rfl rfl (by kernel_rfl) Try.func4 (by kernel_rfl)
    (of_decide_eq_true (by kernel_rfl)) (by unfold Func.isWrapper; rw [if_neg (of_decide_eq_false (by kernel_rfl))]; exact ⟨rfl, rfl⟩)
    (fun os started H enc _ => FnExactModemSet_lifted os started H enc)

end Go.Proofs.Ytjnkbheolgchjaa
