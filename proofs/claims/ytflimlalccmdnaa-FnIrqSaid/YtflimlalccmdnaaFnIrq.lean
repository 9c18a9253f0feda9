/-
  FnIrq returns true for every code: an interrupt is enabled.
-/
import Derived.Test.YtflimlalccmdnaaIrqLaw
import Derived.Test.YtflimlalccmdnaaIrqDraw
import Derived.Test.YtflimlalccmdnaaRow
set_option linter.unusedVariables false
set_option linter.unusedSimpArgs false
namespace Go.Proofs.Ytflimlalccmdnaa
open Go.ChangeShapes Go.WideShapes Go.ChangeAt Go.RowKit

set_option maxHeartbeats 4000000 in
theorem FnIrq_small (A : Option Addr) (n c : Nat) (w : World) (hC : Code w A n c) : Calls Try.prog 5 #[.slice A n c] w fun e w' => e = .returned (.bool true) ∧ Below w.heap.size w w' := by
  have hn : n ≤ 1048576 := hC.elim fun _ h => h.2.2.1
  have hn2 : ¬ 1048576 < n := by omega
  go_enter Try.func5, Try.ntmps5
  go_wp2_with fail
  (with_reducible refine (DrawIrqOf_any _ _ _ _ hC).mono ?_); rintro e w1 ⟨st, rd, md, en, rfl, hb1⟩; have hz1 := hb1.size; (try simp at hz1)
  have c1 := fun w => impl_IrqOf st rd en md w
  have c2 := fun w => spec_IrqOf st rd en md w
  by_cases hz : irqAll st rd md en = 1
  · rw [hz] at c1 c2
    have C1 := Lib.hid c1
    have C2 := Lib.hid c2
    clear c1 c2 hz
    go_wp2_with fail
    (with_reducible refine (C1.out _).mono ?_); rintro e w2 ⟨rfl, hb2⟩; have hz2 := hb2.size; (try simp at hz2)
    go_wp2_with fail
    (with_reducible refine (C2.out _).mono ?_); rintro e w3 ⟨rfl, hb3⟩; have hz3 := hb3.size; (try simp at hz3)
    go_wp2
    go_ret
    exact ⟨rfl, (by repeat (first | (with_reducible exact b_refl _) | (with_reducible refine b_alloc ?_ _) | (with_reducible refine b_drew ?_) | (with_reducible refine b_drewN ?_ _) | (with_reducible refine b_set ?_ ?_ _) | (with_reducible refine b_trans ?_ (by assumption)) | (with_reducible refine b_only ?_ (by assumption) ?_) | omega | (focus (simp; done)) | (focus (simp; omega))))⟩
  have hbd := valid_bd (valid_of hz)
  obtain ⟨⟨d1, d2⟩, ⟨d3, d4⟩, d5, d6⟩ := hbd
  rcases irq_why hz with ⟨hv, q1, q2⟩ | ⟨hv, q1, q2⟩ | ⟨hv, q1, q2⟩ | ⟨hv, q1, q2⟩ | ⟨hv, q1, q2⟩
  · rw [hv] at c1 c2
    have C1 := Lib.hid c1
    have C2 := Lib.hid c2
    have Q1 := Lib.hid q1
    have Q2 := Lib.hid q2
    clear c1 c2 hz hv q1 q2
    go_wp2_with fail
    (with_reducible refine (C1.out _).mono ?_); rintro e w2 ⟨rfl, hb2⟩; have hz2 := hb2.size; (try simp at hz2)
    go_wp2_with fail
    (with_reducible refine (C2.out _).mono ?_); rintro e w3 ⟨rfl, hb3⟩; have hz3 := hb3.size; (try simp at hz3)
    go_wp2_with fail
    (with_reducible refine (bit_6 _).mono ?_); rintro e w4 ⟨rfl, hb4⟩; have hz4 := hb4.size; (try simp at hz4)
    go_wp2
    go_ret
    have q1 := Q1.out
    have q2 := Q2.out
    refine ⟨ret_bool ?_, (by repeat (first | (with_reducible exact b_refl _) | (with_reducible refine b_alloc ?_ _) | (with_reducible refine b_drew ?_) | (with_reducible refine b_drewN ?_ _) | (with_reducible refine b_set ?_ ?_ _) | (with_reducible refine b_trans ?_ (by assumption)) | (with_reducible refine b_only ?_ (by assumption) ?_) | omega | (focus (simp; done)) | (focus (simp; omega))))⟩
    simpa [bt] using q1
  · rw [hv] at c1 c2
    have C1 := Lib.hid c1
    have C2 := Lib.hid c2
    have Q1 := Lib.hid q1
    have Q2 := Lib.hid q2
    clear c1 c2 hz hv q1 q2
    go_wp2_with fail
    (with_reducible refine (C1.out _).mono ?_); rintro e w2 ⟨rfl, hb2⟩; have hz2 := hb2.size; (try simp at hz2)
    go_wp2_with fail
    (with_reducible refine (C2.out _).mono ?_); rintro e w3 ⟨rfl, hb3⟩; have hz3 := hb3.size; (try simp at hz3)
    go_wp2_with fail
    (with_reducible refine (bit_4 _).mono ?_); rintro e w4 ⟨rfl, hb4⟩; have hz4 := hb4.size; (try simp at hz4)
    go_wp2
    go_ret
    have q1 := Q1.out
    have q2 := Q2.out
    refine ⟨ret_bool ?_, (by repeat (first | (with_reducible exact b_refl _) | (with_reducible refine b_alloc ?_ _) | (with_reducible refine b_drew ?_) | (with_reducible refine b_drewN ?_ _) | (with_reducible refine b_set ?_ ?_ _) | (with_reducible refine b_trans ?_ (by assumption)) | (with_reducible refine b_only ?_ (by assumption) ?_) | omega | (focus (simp; done)) | (focus (simp; omega))))⟩
    simpa [bt] using q1
  · rw [hv] at c1 c2
    have C1 := Lib.hid c1
    have C2 := Lib.hid c2
    have Q1 := Lib.hid q1
    have Q2 := Lib.hid q2
    clear c1 c2 hz hv q1 q2
    go_wp2_with fail
    (with_reducible refine (C1.out _).mono ?_); rintro e w2 ⟨rfl, hb2⟩; have hz2 := hb2.size; (try simp at hz2)
    go_wp2_with fail
    (with_reducible refine (C2.out _).mono ?_); rintro e w3 ⟨rfl, hb3⟩; have hz3 := hb3.size; (try simp at hz3)
    go_wp2_with fail
    (with_reducible refine (bit_12 _).mono ?_); rintro e w4 ⟨rfl, hb4⟩; have hz4 := hb4.size; (try simp at hz4)
    go_wp2
    go_ret
    have q1 := Q1.out
    have q2 := Q2.out
    refine ⟨ret_bool ?_, (by repeat (first | (with_reducible exact b_refl _) | (with_reducible refine b_alloc ?_ _) | (with_reducible refine b_drew ?_) | (with_reducible refine b_drewN ?_ _) | (with_reducible refine b_set ?_ ?_ _) | (with_reducible refine b_trans ?_ (by assumption)) | (with_reducible refine b_only ?_ (by assumption) ?_) | omega | (focus (simp; done)) | (focus (simp; omega))))⟩
    simpa [bt] using q1
  · rw [hv] at c1 c2
    have C1 := Lib.hid c1
    have C2 := Lib.hid c2
    have Q1 := Lib.hid q1
    have Q2 := Lib.hid q2
    clear c1 c2 hz hv q1 q2
    go_wp2_with fail
    (with_reducible refine (C1.out _).mono ?_); rintro e w2 ⟨rfl, hb2⟩; have hz2 := hb2.size; (try simp at hz2)
    go_wp2_with fail
    (with_reducible refine (C2.out _).mono ?_); rintro e w3 ⟨rfl, hb3⟩; have hz3 := hb3.size; (try simp at hz3)
    go_wp2_with fail
    (with_reducible refine (bit_2 _).mono ?_); rintro e w4 ⟨rfl, hb4⟩; have hz4 := hb4.size; (try simp at hz4)
    go_wp2
    go_ret
    have q1 := Q1.out
    have q2 := Q2.out
    refine ⟨ret_bool ?_, (by repeat (first | (with_reducible exact b_refl _) | (with_reducible refine b_alloc ?_ _) | (with_reducible refine b_drew ?_) | (with_reducible refine b_drewN ?_ _) | (with_reducible refine b_set ?_ ?_ _) | (with_reducible refine b_trans ?_ (by assumption)) | (with_reducible refine b_only ?_ (by assumption) ?_) | omega | (focus (simp; done)) | (focus (simp; omega))))⟩
    simpa [bt] using q1
  · rw [hv] at c1 c2
    have C1 := Lib.hid c1
    have C2 := Lib.hid c2
    have Q1 := Lib.hid q1
    have Q2 := Lib.hid q2
    clear c1 c2 hz hv q1 q2
    go_wp2_with fail
    (with_reducible refine (C1.out _).mono ?_); rintro e w2 ⟨rfl, hb2⟩; have hz2 := hb2.size; (try simp at hz2)
    go_wp2_with fail
    (with_reducible refine (C2.out _).mono ?_); rintro e w3 ⟨rfl, hb3⟩; have hz3 := hb3.size; (try simp at hz3)
    go_wp2_with fail
    (with_reducible refine (bit_0 _).mono ?_); rintro e w4 ⟨rfl, hb4⟩; have hz4 := hb4.size; (try simp at hz4)
    go_wp2
    go_ret
    have q1 := Q1.out
    have q2 := Q2.out
    refine ⟨ret_bool ?_, (by repeat (first | (with_reducible exact b_refl _) | (with_reducible refine b_alloc ?_ _) | (with_reducible refine b_drew ?_) | (with_reducible refine b_drewN ?_ _) | (with_reducible refine b_set ?_ ?_ _) | (with_reducible refine b_trans ?_ (by assumption)) | (with_reducible refine b_only ?_ (by assumption) ?_) | omega | (focus (simp; done)) | (focus (simp; omega))))⟩
    simpa [bt] using q1
set_option maxHeartbeats 1000000 in
theorem FnIrq_calls (A : Option Addr) (n c : Nat) (w : World) (hC : CodeIn w A n c) : Calls Try.prog 5 #[.slice A n c] w fun e w' => e = .returned (.bool true) ∧ Below w.heap.size w w' := by
  by_cases hn : n ≤ 1048576
  · exact FnIrq_small A n c w (hC.code hn)
  · have hl := hC.len
    have hn2 : (1048576 : Int) < n := by omega
    go_enter Try.func5, Try.ntmps5
    go_wp2
    go_ret
    exact ⟨rfl, b_refl _⟩
set_option maxRecDepth 100000 in
theorem FnIrq_lifted (os : Os) (started : os.Started) (H : Type) (enc : TypeId × Value → H) :
    ReturnsInHanded {} Try.checked os 5 .any (Rows.fnIrqSpec.pre6 enc Try.prog Try.f5 Rows.fnIrqRow.domain false) (Rows.fnIrqSpec.post enc Try.prog Try.f5 false true false false) := by
  refine returnsInHanded_of_change (C := Try.checked) own started (by kernel_rfl) Try.func5
    (ChangeSpec.witness6 (enc := enc) (C := Try.checked) false ⟨#[], #[.slice none 0 0], []⟩ 8 (by kernel_rfl) (by kernel_rfl) (by kernel_rfl) (by kernel_rfl)) ?_
  intro W base args ds gs before hval0 hW _ _
  have hval : ∀ (j : Nat) t v, Try.f5.params[j]? = some t → args[j]? = some v → Value.okWide Try.prog W .any base t v := hval0
  have hW2 := hW
  obtain ⟨p, q, hA0, hV, rfl, _, _⟩ := hW2
  have hA : DataW.TrodAll enc Try.prog W 0 (fun _ => true) true Try.f5.params.toList args.toList ds p := hA0
  rw [Try.params5] at hA hval
  obtain ⟨v0, d0, rfl, rfl, h0⟩ := trodAll_one hA
  obtain ⟨rfl, rfl⟩ := trodVars_none hV
  obtain ⟨A0, n, c, rfl, hC⟩ := open_code (hval 0 _ v0 rfl rfl) h0
  refine (FnIrq_calls A0 n c W hC).mono fun e W' ⟨he, hb⟩ => ?_
  subst he
  exact ⟨_, rfl, law_post (f := Try.f5) (s := Rows.fnIrqSpec) 4 laid_out (by kernel_rfl) rfl (by kernel_rfl) Try.underlying4 hW rfl hb⟩
theorem FnIrq_holds : Rows.FnIrqSaid :=
  OpenClaim.holds_of_wide 5 Try.f5 rfl rfl rfl rfl rfl rfl rfl ⟨rfl, rfl, rfl, rfl, rfl⟩ rfl rfl rfl rfl rfl (by kernel_rfl) Try.func5 (by kernel_rfl)
    (of_decide_eq_true (by kernel_rfl)) (by unfold Func.isWrapper; rw [if_neg (of_decide_eq_false (by kernel_rfl))]; exact ⟨rfl, rfl⟩)
    (fun os started H enc _ => FnIrq_lifted os started H enc)

end Go.Proofs.Ytflimlalccmdnaa
