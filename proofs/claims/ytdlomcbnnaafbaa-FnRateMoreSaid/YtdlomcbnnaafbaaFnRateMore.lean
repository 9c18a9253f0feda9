/-
  FnRateMore returns true for every code: a greater divisor has no greater rate.
-/
import Derived.Test.YtdlomcbnnaafbaaRateDraw
import Derived.Test.YtdlomcbnnaafbaaRow
set_option linter.unusedVariables false
set_option linter.unusedSimpArgs false
namespace Go.Proofs.Ytdlomcbnnaafbaa
open Go.ChangeShapes Go.WideShapes Go.ChangeAt Go.RowKit

set_option maxHeartbeats 4000000 in
theorem FnRateMore_small (A : Option Addr) (n c : Nat) (w : World) (hC : Code w A n c) : Calls Try.prog 5 #[.slice A n c] w fun e w' => e = .returned (.bool true) ∧ Below w.heap.size w w' := by
  have hn : n ≤ 1048576 := hC.elim fun _ h => h.2.2.1
  have hn2 : ¬ 1048576 < n := by omega
  go_enter Try.func5, Try.ntmps5
  go_wp2_with fail
  (with_reducible refine (DrawRateOf_any _ _ _ _ hC).mono ?_); rintro e w1 ⟨d, rfl, hd0, hd1, hb1⟩; have hz1 := hb1.size; (try simp at hz1)
  by_cases hok : divOk d = true
  · have hr := rate_bd hok
    have hd2 := divOk_iff.1 hok
    have e0 : rateOf d = 115200 / d := by rw [rateOf, if_pos hok]
    have hp : 0 ≤ 115200 / d := Int.ediv_nonneg (by omega) (by omega)
    have hp2 : 115200 / d ≤ 115200 := Int.ediv_le_self _ (by omega)
    by_cases hm : d = 2304
    · subst hm
      go_wp2_with (first | (go_at_call 11; go_must ((with_reducible refine (impl_RateOf _ _).mono ?_); rintro e w' ⟨rfl, rfl⟩)) | (go_at_call 10; go_must ((with_reducible refine (spec_RateOf _ _).mono ?_); rintro e w' ⟨rfl, rfl⟩)))
      go_ret
      exact ⟨rfl, (by repeat (first | (with_reducible exact b_refl _) | (with_reducible refine b_alloc ?_ _) | (with_reducible refine b_drew ?_) | (with_reducible refine b_drewN ?_ _) | (with_reducible refine b_set ?_ ?_ _) | (with_reducible refine b_trans ?_ (by assumption)) | (with_reducible refine b_only ?_ (by assumption) ?_) | omega | (focus (simp; done)) | (focus (simp; omega))))⟩
    · have hm2 : (d == 2304) = false := by simpa using hm
      have hok2 : divOk (d + 1) = true := divOk_iff.2 (by omega)
      have e1 : rateOf (d + 1) = 115200 / (d + 1) := by rw [rateOf, if_pos hok2]
      have hq := rate_more hd2.1
      go_wp2_with (first | (go_at_call 11; go_must ((with_reducible refine (impl_RateOf _ _).mono ?_); rintro e w' ⟨rfl, rfl⟩)) | (go_at_call 10; go_must ((with_reducible refine (spec_RateOf _ _).mono ?_); rintro e w' ⟨rfl, rfl⟩)))
      all_goals go_ret
      all_goals refine ⟨ret_bool ?_, (by repeat (first | (with_reducible exact b_refl _) | (with_reducible refine b_alloc ?_ _) | (with_reducible refine b_drew ?_) | (with_reducible refine b_drewN ?_ _) | (with_reducible refine b_set ?_ ?_ _) | (with_reducible refine b_trans ?_ (by assumption)) | (with_reducible refine b_only ?_ (by assumption) ?_) | omega | (focus (simp; done)) | (focus (simp; omega))))⟩
      all_goals first | rfl | (simp; omega)
  · have e0 : rateOf d = -1 := by rw [rateOf, if_neg hok]
    go_wp2_with (first | (go_at_call 11; go_must ((with_reducible refine (impl_RateOf _ _).mono ?_); rintro e w' ⟨rfl, rfl⟩)) | (go_at_call 10; go_must ((with_reducible refine (spec_RateOf _ _).mono ?_); rintro e w' ⟨rfl, rfl⟩)))
    go_ret
    exact ⟨rfl, (by repeat (first | (with_reducible exact b_refl _) | (with_reducible refine b_alloc ?_ _) | (with_reducible refine b_drew ?_) | (with_reducible refine b_drewN ?_ _) | (with_reducible refine b_set ?_ ?_ _) | (with_reducible refine b_trans ?_ (by assumption)) | (with_reducible refine b_only ?_ (by assumption) ?_) | omega | (focus (simp; done)) | (focus (simp; omega))))⟩
set_option maxHeartbeats 1000000 in
theorem FnRateMore_calls (A : Option Addr) (n c : Nat) (w : World) (hC : CodeIn w A n c) : Calls Try.prog 5 #[.slice A n c] w fun e w' => e = .returned (.bool true) ∧ Below w.heap.size w w' := by
  by_cases hn : n ≤ 1048576
  · exact FnRateMore_small A n c w (hC.code hn)
  · have hl := hC.len
    have hn2 : (1048576 : Int) < n := by omega
    go_enter Try.func5, Try.ntmps5
    go_wp2
    go_ret
    exact ⟨rfl, b_refl _⟩
set_option maxRecDepth 100000 in
theorem FnRateMore_lifted (os : Os) (started : os.Started) (H : Type) (enc : TypeId × Value → H) :
    ReturnsInHanded {} Try.checked os 5 .any (Rows.fnRateMoreSpec.pre6 enc Try.prog Try.f5 Rows.fnRateMoreRow.domain false) (Rows.fnRateMoreSpec.post enc Try.prog Try.f5 false true false false) := by
  refine returnsInHanded_of_change (C := Try.checked) own started (by kernel_rfl) Try.func5
    (ChangeSpec.witness6 (enc := enc) (C := Try.checked) false ⟨#[], #[.slice none 0 0], []⟩ 8 (by kernel_rfl) (by kernel_rfl) (by kernel_rfl) (by kernel_rfl)) ?_
  intro W base args ds gs before hval0 hW _ _
  have hval : ∀ (j : Nat) t v, Try.f5.params[j]? = some t → args[j]? = some v → Value.okWide Try.prog W .any base t v := hval0
  have hW2 := hW
  obtain ⟨p, q, hA0, hV, rfl, _, _⟩ := hW2
  have hA : DataW.TrodAll enc Try.prog W 0 (fun _ => true) true Try.f5.params.toList args.toList ds p := hA0
  rw [Try.params5] at hA hval
  obtain ⟨v0, d0, rfl, rfl, h0⟩ := trodAll_one hA
  obtain ⟨rfl, rfl⟩ := trodVars_none hV
  obtain ⟨A0, n, c, rfl, hC⟩ := open_code (hval 0 _ v0 rfl rfl) h0
  refine (FnRateMore_calls A0 n c W hC).mono fun e W' ⟨he, hb⟩ => ?_
  subst he
  exact ⟨_, rfl, law_post (f := Try.f5) (s := Rows.fnRateMoreSpec) 4 laid_out (by kernel_rfl) rfl (by kernel_rfl) Try.underlying4 hW rfl hb⟩
theorem FnRateMore_holds : Rows.FnRateMoreSaid :=
  OpenClaim.holds_of_wide 5 Try.f5 rfl rfl rfl rfl rfl rfl rfl ⟨rfl, rfl, rfl, rfl, rfl⟩ rfl rfl rfl rfl rfl (by kernel_rfl) Try.func5 (by kernel_rfl)
    (of_decide_eq_true (by kernel_rfl)) (by unfold Func.isWrapper; rw [if_neg (of_decide_eq_false (by kernel_rfl))]; exact ⟨rfl, rfl⟩)
    (fun os started H enc _ => FnRateMore_lifted os started H enc)

end Go.Proofs.Ytdlomcbnnaafbaa
