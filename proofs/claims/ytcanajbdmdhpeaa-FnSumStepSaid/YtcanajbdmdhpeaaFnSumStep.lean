/-
  FnSumStep returns true for every code: each byte is added to the first sum, and this to the second one.
-/
import Derived.Test.YtcanajbdmdhpeaaSumLaw
import Derived.Test.YtcanajbdmdhpeaaSumDraw
import Derived.Test.YtcanajbdmdhpeaaRow
set_option linter.unusedVariables false
set_option linter.unusedSimpArgs false
namespace Go.Proofs.Ytcanajbdmdhpeaa
open Go.ChangeShapes Go.WideShapes Go.ChangeAt Go.RowKit

set_option maxHeartbeats 4000000 in
theorem FnSumStep_small (A : Option Addr) (n c : Nat) (w : World) (hC : Code w A n c) : Calls Try.prog 8 #[.slice A n c] w fun e w' => e = .returned (.bool true) ∧ Below w.heap.size w w' := by
  have hn : n ≤ 1048576 := hC.elim fun _ h => h.2.2.1
  have hn2 : ¬ 1048576 < n := by omega
  go_enter Try.func8, Try.ntmps8
  go_wp2_with fail
  (with_reducible refine (DrawSumOf_any _ _ _ _ hC).mono ?_); rintro e w1 ⟨A1, n1, c1, xs, rfl, hn1, hx1, hc1, hd1, hb1⟩; have hz1 := hb1.size; (try simp at hz1)
  have HX := Lib.hid hx1.len
  unfold maxLen at hd1
  go_wp2_with fail
  (with_reducible refine (impl_SumOf _ _ _ _ _ hx1 (by omega)).mono ?_); rintro e w2 ⟨rfl, hb2⟩; have hz2 := hb2.size; (try simp at hz2)
  have hx2 := hx1.below hb2
  go_wp2_with fail
  (with_reducible refine (spec_SumOf _ _ _ _ _ hx2 (by omega)).mono ?_); rintro e w3 ⟨rfl, rfl⟩
  rcases sumOf_cases xs with ⟨e1, e2⟩ | ⟨hB, hl, e0⟩
  · rw [e1, e2]
    clear e1 e2
    go_wp2
    go_ret
    exact ⟨ret_bool (by simp), (by repeat (first | (with_reducible exact b_refl _) | (with_reducible refine b_alloc ?_ _) | (with_reducible refine b_drew ?_) | (with_reducible refine b_drewN ?_ _) | (with_reducible refine b_set ?_ ?_ _) | (with_reducible refine b_trans ?_ (by assumption)) | (with_reducible refine b_only ?_ (by assumption) ?_) | omega | (focus (simp; done)) | (focus (simp; omega))))⟩
  · have hbd := sums_bd xs
    rw [e0]
    have B2 : Below w.heap.size w w2 := (by repeat (first | (with_reducible exact b_refl _) | (with_reducible refine b_alloc ?_ _) | (with_reducible refine b_drew ?_) | (with_reducible refine b_drewN ?_ _) | (with_reducible refine b_set ?_ ?_ _) | (with_reducible refine b_trans ?_ (by assumption)) | (with_reducible refine b_only ?_ (by assumption) ?_) | omega | (focus (simp; done)) | (focus (simp; omega))))
    by_cases h0 : n1 = 0
    · have hz : ((n1 : Int) == 0) = true := by simp [h0]
      go_wp2
      go_ret
      exact ⟨ret_bool (by simp), (by repeat (first | (with_reducible exact b_refl _) | (with_reducible refine b_alloc ?_ _) | (with_reducible refine b_drew ?_) | (with_reducible refine b_drewN ?_ _) | (with_reducible refine b_set ?_ ?_ _) | (with_reducible refine b_trans ?_ (by assumption)) | (with_reducible refine b_only ?_ (by assumption) ?_) | omega | (focus (simp; done)) | (focus (simp; omega))))⟩
    · obtain ⟨k, rfl⟩ : ∃ k, n1 = k + 1 := ⟨n1 - 1, by omega⟩
      have hz : (((k + 1 : Nat) : Int) == 0) = false := by simp; omega
      obtain ⟨b, o, x, rfl, hb, ex, hc⟩ := hx2.at_ (k := k) (by omega)
      have hxb := bytesOk_at hB ex
      have ET := Lib.hid (sums_take ex)
      have HA : Hid (xs.take (k + 1) = xs) := List.take_of_length_le (by have := HX.out; omega)
      have ep : sumOf (xs.take k) = sums (xs.take k) := if_pos ⟨bytesOk_take hB k, by simp; omega⟩
      have HP := Lib.hid ep
      have hbt := sums_bd (xs.take k)
      have ek : ((k + 1 : Nat) : Int) - 1 = k := by omega
      clear ex ep e0 h0
      go_wp2_with fail
      (with_reducible refine (impl_SumOf _ k c1 (xs.take k) _ (hx2.take (by omega)) (by omega)).mono ?_); rintro e w4 ⟨rfl, hb4⟩; have hz4 := hb4.size; (try simp at hz4)
      have hc4 := (hb4.cell (p := ⟨b, o + k, none⟩) hb).trans hc
      rw [HP.out]
      have E := ET.out
      rw [HA.out] at E
      have E1 : (sums xs).1 = ((sums (xs.take k)).1 + x) % 255 := by rw [E]; rfl
      have E2 : (sums xs).2 = ((sums (xs.take k)).2 + (sums xs).1) % 255 := by rw [E]; rfl
      have F1 := Lib.hid E1
      have F2 := Lib.hid E2
      clear E E1 E2
      go_wp2
      all_goals go_ret
      all_goals refine ⟨ret_bool ?_, (by repeat (first | (with_reducible exact b_refl _) | (with_reducible refine b_alloc ?_ _) | (with_reducible refine b_drew ?_) | (with_reducible refine b_drewN ?_ _) | (with_reducible refine b_set ?_ ?_ _) | (with_reducible refine b_trans ?_ (by assumption)) | (with_reducible refine b_only ?_ (by assumption) ?_) | omega | (focus (simp; done)) | (focus (simp; omega))))⟩
      all_goals first | rfl | (have := F1.out; have := F2.out; simp; omega)
set_option maxHeartbeats 1000000 in
theorem FnSumStep_calls (A : Option Addr) (n c : Nat) (w : World) (hC : CodeIn w A n c) : Calls Try.prog 8 #[.slice A n c] w fun e w' => e = .returned (.bool true) ∧ Below w.heap.size w w' := by
  by_cases hn : n ≤ 1048576
  · exact FnSumStep_small A n c w (hC.code hn)
  · have hl := hC.len
    have hn2 : (1048576 : Int) < n := by omega
    go_enter Try.func8, Try.ntmps8
    go_wp2
    go_ret
    exact ⟨rfl, b_refl _⟩
set_option maxRecDepth 100000 in
theorem FnSumStep_lifted (os : Os) (started : os.Started) (H : Type) (enc : TypeId × Value → H) :
    ReturnsInHanded {} Try.checked os 8 .any (Rows.fnSumStepSpec.pre6 enc Try.prog Try.f8 Rows.fnSumStepRow.domain false) (Rows.fnSumStepSpec.post enc Try.prog Try.f8 false true false false) := by
  refine returnsInHanded_of_change (C := Try.checked) own started (by kernel_rfl) Try.func8
    (ChangeSpec.witness6 (enc := enc) (C := Try.checked) false ⟨#[], #[.slice none 0 0], []⟩ 8 (by kernel_rfl) (by kernel_rfl) (by kernel_rfl) (by kernel_rfl)) ?_
  intro W base args ds gs before hval0 hW _ _
  have hval : ∀ (j : Nat) t v, Try.f8.params[j]? = some t → args[j]? = some v → Value.okWide Try.prog W .any base t v := hval0
  have hW2 := hW
  obtain ⟨p, q, hA0, hV, rfl, _, _⟩ := hW2
  have hA : DataW.TrodAll enc Try.prog W 0 (fun _ => true) true Try.f8.params.toList args.toList ds p := hA0
  rw [Try.params8] at hA hval
  obtain ⟨v0, d0, rfl, rfl, h0⟩ := trodAll_one hA
  obtain ⟨rfl, rfl⟩ := trodVars_none hV
  obtain ⟨A0, n, c, rfl, hC⟩ := open_code (hval 0 _ v0 rfl rfl) h0
  refine (FnSumStep_calls A0 n c W hC).mono fun e W' ⟨he, hb⟩ => ?_
  subst he
  exact ⟨_, rfl, law_post (f := Try.f8) (s := Rows.fnSumStepSpec) 4 laid_out (by kernel_rfl) rfl (by kernel_rfl) Try.underlying4 hW rfl hb⟩
theorem FnSumStep_holds : Rows.FnSumStepSaid :=
  OpenClaim.holds_of_wide 8 Try.f8 rfl rfl rfl rfl rfl rfl rfl ⟨rfl, rfl, rfl, rfl, rfl⟩ rfl rfl rfl rfl rfl (by kernel_rfl) Try.func8 (by kernel_rfl)
    (of_decide_eq_true (by kernel_rfl)) (by unfold Func.isWrapper; rw [if_neg (of_decide_eq_false (by kernel_rfl))]; exact ⟨rfl, rfl⟩)
    (fun os started H enc _ => FnSumStep_lifted os started H enc)

end Go.Proofs.Ytcanajbdmdhpeaa
