/-
  FnIrqNext returns true for every code: what counts less comes next.
-/
import Derived.Test.YtflimlalccmdnaaIrqLaw
import Derived.Test.YtflimlalccmdnaaIrqDraw
import Derived.Test.YtflimlalccmdnaaRow
set_option linter.unusedVariables false
set_option linter.unusedSimpArgs false
namespace Go.Proofs.Ytflimlalccmdnaa
open Go.ChangeShapes Go.WideShapes Go.ChangeAt Go.RowKit

set_option maxHeartbeats 4000000 in
theorem FnIrqNext_small (A : Option Addr) (n c : Nat) (w : World) (hC : Code w A n c) : Calls Try.prog 7 #[.slice A n c] w fun e w' => e = .returned (.bool true) ∧ Below w.heap.size w w' := by
  have hn : n ≤ 1048576 := hC.elim fun _ h => h.2.2.1
  have hn2 : ¬ 1048576 < n := by omega
  go_enter Try.func7, Try.ntmps7
  go_wp2_with fail
  (with_reducible refine (DrawIrqOf_any _ _ _ _ hC).mono ?_); rintro e w1 ⟨st, rd, md, en, rfl, hb1⟩; have hz1 := hb1.size; (try simp at hz1)
  have c1 := fun w => impl_IrqOf st rd en md w
  have c2 := fun w => spec_IrqOf st rd en md w
  by_cases hz : irqAll st rd md en = 1
  · rw [hz] at c1 c2
    have C1 := Lib.hid c1
    have C2 := Lib.hid c2
    clear c1 c2 hz
    go_wp2_with fail
    (with_reducible refine (C1.out _).mono ?_); rintro e w2 ⟨rfl, hb2⟩; have hz2 := hb2.size; (try simp at hz2)
    go_wp2_with fail
    (with_reducible refine (C2.out _).mono ?_); rintro e w3 ⟨rfl, hb3⟩; have hz3 := hb3.size; (try simp at hz3)
    go_wp2
    go_ret
    exact ⟨rfl, (by repeat (first | (with_reducible exact b_refl _) | (with_reducible refine b_alloc ?_ _) | (with_reducible refine b_drew ?_) | (with_reducible refine b_drewN ?_ _) | (with_reducible refine b_set ?_ ?_ _) | (with_reducible refine b_trans ?_ (by assumption)) | (with_reducible refine b_only ?_ (by assumption) ?_) | omega | (focus (simp; done)) | (focus (simp; omega))))⟩
  have hbd := valid_bd (valid_of hz)
  obtain ⟨⟨d1, d2⟩, ⟨d3, d4⟩, d5, d6⟩ := hbd
  have hs := irqAll_six st rd md en
  have hm := irq_next st rd md en hz
  have hbv := bitv_bd (irqAll st rd md en)
  have hs2 := irqAll_six st rd md (en - bitv (irqAll st rd md en))
  have c3 := fun w => impl_IrqOf st rd (en - bitv (irqAll st rd md en)) md w
  have cb := fun w => bit_any (irqAll st rd md en) w hs
  generalize irqAll st rd md (en - bitv (irqAll st rd md en)) = v2 at *
  generalize bitv (irqAll st rd md en) = bv at *
  obtain ⟨bv0, bv1⟩ := hbv
  have HM := Lib.hid hm
  have C3 := Lib.hid c3
  have CB := Lib.hid cb
  clear c3 hm cb
  generalize irqAll st rd md en = v at *
  have z : (v == 1) = false := by simpa using hz
  have C1 := Lib.hid c1
  have C2 := Lib.hid c2
  clear c1 c2 hz
  go_wp2_with fail
  (with_reducible refine (C1.out _).mono ?_); rintro e w2 ⟨rfl, hb2⟩; have hz2 := hb2.size; (try simp at hz2)
  go_wp2_with fail
  (with_reducible refine (C2.out _).mono ?_); rintro e w3 ⟨rfl, hb3⟩; have hz3 := hb3.size; (try simp at hz3)
  go_wp2_with fail
  (with_reducible refine (CB.out _).mono ?_); rintro e w7 ⟨rfl, hb7⟩; have hz7 := hb7.size; (try simp at hz7)
  go_wp2_with fail
  (with_reducible refine (C3.out _).mono ?_); rintro e w4 ⟨rfl, hb4⟩; have hz4 := hb4.size; (try simp at hz4)
  go_wp2_with fail
  (with_reducible refine (rank_any v2 _ hs2).mono ?_); rintro e w5 ⟨rfl, hb5⟩; have hz5 := hb5.size; (try simp at hz5)
  go_wp2_with fail
  (with_reducible refine (rank_any v _ hs).mono ?_); rintro e w6 ⟨rfl, hb6⟩; have hz6 := hb6.size; (try simp at hz6)
  go_wp2
  go_ret
  exact ⟨ret_bool (by simpa using HM.out), (by repeat (first | (with_reducible exact b_refl _) | (with_reducible refine b_alloc ?_ _) | (with_reducible refine b_drew ?_) | (with_reducible refine b_drewN ?_ _) | (with_reducible refine b_set ?_ ?_ _) | (with_reducible refine b_trans ?_ (by assumption)) | (with_reducible refine b_only ?_ (by assumption) ?_) | omega | (focus (simp; done)) | (focus (simp; omega))))⟩
set_option maxHeartbeats 1000000 in
theorem FnIrqNext_calls (A : Option Addr) (n c : Nat) (w : World) (hC : CodeIn w A n c) : Calls Try.prog 7 #[.slice A n c] w fun e w' => e = .returned (.bool true) ∧ Below w.heap.size w w' := by
  by_cases hn : n ≤ 1048576
  · exact FnIrqNext_small A n c w (hC.code hn)
  · have hl := hC.len
    have hn2 : (1048576 : Int) < n := by omega
    go_enter Try.func7, Try.ntmps7
    go_wp2
    go_ret
    exact ⟨rfl, b_refl _⟩
set_option maxRecDepth 100000 in
theorem FnIrqNext_lifted (os : Os) (started : os.Started) (H : Type) (enc : TypeId × Value → H) :
    ReturnsInHanded {} Try.checked os 7 .any (Rows.fnIrqNextSpec.pre6 enc Try.prog Try.f7 Rows.fnIrqNextRow.domain false) (Rows.fnIrqNextSpec.post enc Try.prog Try.f7 false true false false) := by
  refine returnsInHanded_of_change (C := Try.checked) own started (by kernel_rfl) Try.func7
    (ChangeSpec.witness6 (enc := enc) (C := Try.checked) false ⟨#[], #[.slice none 0 0], []⟩ 8 (by kernel_rfl) (by kernel_rfl) (by kernel_rfl) (by kernel_rfl)) ?_
  intro W base args ds gs before hval0 hW _ _
  have hval : ∀ (j : Nat) t v, Try.f7.params[j]? = some t → args[j]? = some v → Value.okWide Try.prog W .any base t v := hval0
  have hW2 := hW
  obtain ⟨p, q, hA0, hV, rfl, _, _⟩ := hW2
  have hA : DataW.TrodAll enc Try.prog W 0 (fun _ => true) true Try.f7.params.toList args.toList ds p := hA0
  rw [Try.params7] at hA hval
  obtain ⟨v0, d0, rfl, rfl, h0⟩ := trodAll_one hA
  obtain ⟨rfl, rfl⟩ := trodVars_none hV
  obtain ⟨A0, n, c, rfl, hC⟩ := open_code (hval 0 _ v0 rfl rfl) h0
  refine (FnIrqNext_calls A0 n c W hC).mono fun e W' ⟨he, hb⟩ => ?_
  subst he
  exact ⟨_, rfl, law_post (f := Try.f7) (s := Rows.fnIrqNextSpec) 4 laid_out (by kernel_rfl) rfl (by kernel_rfl) Try.underlying4 hW rfl hb⟩
theorem FnIrqNext_holds : Rows.FnIrqNextSaid :=
  OpenClaim.holds_of_wide 7 Try.f7 rfl rfl rfl rfl rfl rfl rfl ⟨rfl, rfl, rfl, rfl, rfl⟩ rfl rfl rfl rfl rfl (by kernel_rfl) Try.func7 (by kernel_rfl)
    (of_decide_eq_true (by kernel_rfl)) (by unfold Func.isWrapper; rw [if_neg (of_decide_eq_false (by kernel_rfl))]; exact ⟨rfl, rfl⟩)
    (fun os started H enc _ => FnIrqNext_lifted os started H enc)

end Go.Proofs.Ytflimlalccmdnaa
