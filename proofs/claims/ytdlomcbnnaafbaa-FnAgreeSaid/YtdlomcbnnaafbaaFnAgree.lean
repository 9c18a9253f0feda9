/-
  FnAgree returns true for every code: agreement has no direction.
-/
import Derived.Test.YtdlomcbnnaafbaaRateDraw
import Derived.Test.YtdlomcbnnaafbaaRow
set_option linter.unusedVariables false
set_option linter.unusedSimpArgs false
namespace Go.Proofs.Ytdlomcbnnaafbaa
open Go.ChangeShapes Go.WideShapes Go.ChangeAt Go.RowKit

set_option maxHeartbeats 4000000 in
theorem FnAgree_small (A : Option Addr) (n c : Nat) (w : World) (hC : Code w A n c) : Calls Try.prog 8 #[.slice A n c] w fun e w' => e = .returned (.bool true) ∧ Below w.heap.size w w' := by
  have hn : n ≤ 1048576 := hC.elim fun _ h => h.2.2.1
  have hn2 : ¬ 1048576 < n := by omega
  go_enter Try.func8, Try.ntmps8
  go_wp2_with fail
  (with_reducible refine (DrawRatesAgree_any _ _ _ _ hC).mono ?_); rintro e w1 ⟨a, b, bt, p, s, rfl, hb1⟩; have hz1 := hb1.size; (try simp at hz1)
  go_wp2_with fail
  (with_reducible refine (impl_RatesAgree _ _ _ _ _ _).mono ?_); rintro e w2 ⟨rfl, hb2⟩; have hz2 := hb2.size; (try simp at hz2); have F2 := (Blk.new _ _ _).below hb2 (by first | omega | (simp; done) | (simp; omega)); have F2l := F2.lt; have F2c0 := F2.cell 0; have F2f0 := F2.frozen 0; have F2c1 := F2.cell 1; have F2f1 := F2.frozen 1; have F2c2 := F2.cell 2; have F2f2 := F2.frozen 2; (try simp at F2c0 F2c1 F2c2)
  go_wp2_with fail
  (with_reducible refine (spec_RatesAgree _ _ _ _ _ _).mono ?_); rintro e w3 ⟨rfl, hb3⟩; have hz3 := hb3.size; (try simp at hz3); have F3 := Blk.lift F2 hb3 (by repeat (first | (with_reducible exact F2) | (with_reducible refine Blk.drew ?_) | (with_reducible refine Blk.drewN ?_ _) | (with_reducible refine Blk.alloc ?_ _) | (with_reducible refine Blk.far ?_ ?_ _) | omega | (focus (simp; done)) | (focus (simp; omega)))); have F3l := F3.lt; have F3c0 := F3.cell 0; have F3f0 := F3.frozen 0; have F3c1 := F3.cell 1; have F3f1 := F3.frozen 1; have F3c2 := F3.cell 2; have F3f2 := F3.frozen 2; (try simp at F3c0 F3c1 F3c2)
  by_cases h : agree a b bt p s = true
  · have h1 : agree b a bt p s = true := by rw [agree_comm, h]
    have h2 := (agree_self h).1
    have h3 := (agree_self h).2
    go_wp2_with fail
    (with_reducible refine (impl_RatesAgree _ _ _ _ _ _).mono ?_); rintro e w4 ⟨rfl, hb4⟩; have hz4 := hb4.size; (try simp at hz4); have F4 := Blk.lift F3 hb4 (by repeat (first | (with_reducible exact F3) | (with_reducible refine Blk.drew ?_) | (with_reducible refine Blk.drewN ?_ _) | (with_reducible refine Blk.alloc ?_ _) | (with_reducible refine Blk.far ?_ ?_ _) | omega | (focus (simp; done)) | (focus (simp; omega)))); have F4l := F4.lt; have F4c0 := F4.cell 0; have F4f0 := F4.frozen 0; have F4c1 := F4.cell 1; have F4f1 := F4.frozen 1; have F4c2 := F4.cell 2; have F4f2 := F4.frozen 2; (try simp at F4c0 F4c1 F4c2)
    go_wp2_with fail
    (with_reducible refine (impl_RatesAgree _ _ _ _ _ _).mono ?_); rintro e w5 ⟨rfl, hb5⟩; have hz5 := hb5.size; (try simp at hz5); have F5 := Blk.lift F4 hb5 (by repeat (first | (with_reducible exact F4) | (with_reducible refine Blk.drew ?_) | (with_reducible refine Blk.drewN ?_ _) | (with_reducible refine Blk.alloc ?_ _) | (with_reducible refine Blk.far ?_ ?_ _) | omega | (focus (simp; done)) | (focus (simp; omega)))); have F5l := F5.lt; have F5c0 := F5.cell 0; have F5f0 := F5.frozen 0; have F5c1 := F5.cell 1; have F5f1 := F5.frozen 1; have F5c2 := F5.cell 2; have F5f2 := F5.frozen 2; (try simp at F5c0 F5c1 F5c2)
    go_wp2_with fail
    (with_reducible refine (impl_RatesAgree _ _ _ _ _ _).mono ?_); rintro e w6 ⟨rfl, hb6⟩; have hz6 := hb6.size; (try simp at hz6); have F6 := Blk.lift F5 hb6 (by repeat (first | (with_reducible exact F5) | (with_reducible refine Blk.drew ?_) | (with_reducible refine Blk.drewN ?_ _) | (with_reducible refine Blk.alloc ?_ _) | (with_reducible refine Blk.far ?_ ?_ _) | omega | (focus (simp; done)) | (focus (simp; omega)))); have F6l := F6.lt; have F6c0 := F6.cell 0; have F6f0 := F6.frozen 0; have F6c1 := F6.cell 1; have F6f1 := F6.frozen 1; have F6c2 := F6.cell 2; have F6f2 := F6.frozen 2; (try simp at F6c0 F6c1 F6c2)
    go_wp2
    go_ret
    exact ⟨ret_bool (by simp), (by repeat (first | (with_reducible exact b_refl _) | (with_reducible refine b_alloc ?_ _) | (with_reducible refine b_drew ?_) | (with_reducible refine b_drewN ?_ _) | (with_reducible refine b_set ?_ ?_ _) | (with_reducible refine b_trans ?_ (by assumption)) | (with_reducible refine b_only ?_ (by assumption) ?_) | omega | (focus (simp; done)) | (focus (simp; omega))))⟩
  · have h0 : agree a b bt p s = false := by simpa using h
    have h1 : agree b a bt p s = false := by rw [agree_comm, h0]
    go_wp2_with fail
    (with_reducible refine (impl_RatesAgree _ _ _ _ _ _).mono ?_); rintro e w4 ⟨rfl, hb4⟩; have hz4 := hb4.size; (try simp at hz4); have F4 := Blk.lift F3 hb4 (by repeat (first | (with_reducible exact F3) | (with_reducible refine Blk.drew ?_) | (with_reducible refine Blk.drewN ?_ _) | (with_reducible refine Blk.alloc ?_ _) | (with_reducible refine Blk.far ?_ ?_ _) | omega | (focus (simp; done)) | (focus (simp; omega)))); have F4l := F4.lt; have F4c0 := F4.cell 0; have F4f0 := F4.frozen 0; have F4c1 := F4.cell 1; have F4f1 := F4.frozen 1; have F4c2 := F4.cell 2; have F4f2 := F4.frozen 2; (try simp at F4c0 F4c1 F4c2)
    go_wp2
    go_ret
    exact ⟨ret_bool (by simp), (by repeat (first | (with_reducible exact b_refl _) | (with_reducible refine b_alloc ?_ _) | (with_reducible refine b_drew ?_) | (with_reducible refine b_drewN ?_ _) | (with_reducible refine b_set ?_ ?_ _) | (with_reducible refine b_trans ?_ (by assumption)) | (with_reducible refine b_only ?_ (by assumption) ?_) | omega | (focus (simp; done)) | (focus (simp; omega))))⟩
set_option maxHeartbeats 1000000 in
theorem FnAgree_calls (A : Option Addr) (n c : Nat) (w : World) (hC : CodeIn w A n c) : Calls Try.prog 8 #[.slice A n c] w fun e w' => e = .returned (.bool true) ∧ Below w.heap.size w w' := by
  by_cases hn : n ≤ 1048576
  · exact FnAgree_small A n c w (hC.code hn)
  · have hl := hC.len
    have hn2 : (1048576 : Int) < n := by omega
    go_enter Try.func8, Try.ntmps8
    go_wp2
    go_ret
    exact ⟨rfl, b_refl _⟩
set_option maxRecDepth 100000 in
theorem FnAgree_lifted (os : Os) (started : os.Started) (H : Type) (enc : TypeId × Value → H) :
    ReturnsInHanded {} Try.checked os 8 .any (Rows.fnAgreeSpec.pre6 enc Try.prog Try.f8 Rows.fnAgreeRow.domain false) (Rows.fnAgreeSpec.post enc Try.prog Try.f8 false true false false) := by
  refine returnsInHanded_of_change (C := Try.checked) own started (by kernel_rfl) Try.func8
    (ChangeSpec.witness6 (enc := enc) (C := Try.checked) false ⟨#[], #[.slice none 0 0], []⟩ 8 (by kernel_rfl) (by kernel_rfl) (by kernel_rfl) (by kernel_rfl)) ?_
  intro W base args ds gs before hval0 hW _ _
  have hval : ∀ (j : Nat) t v, Try.f8.params[j]? = some t → args[j]? = some v → Value.okWide Try.prog W .any base t v := hval0
  have hW2 := hW
  obtain ⟨p, q, hA0, hV, rfl, _, _⟩ := hW2
  have hA : DataW.TrodAll enc Try.prog W 0 (fun _ => true) true Try.f8.params.toList args.toList ds p := hA0
  rw [Try.params8] at hA hval
  obtain ⟨v0, d0, rfl, rfl, h0⟩ := trodAll_one hA
  obtain ⟨rfl, rfl⟩ := trodVars_none hV
  obtain ⟨A0, n, c, rfl, hC⟩ := open_code (hval 0 _ v0 rfl rfl) h0
  refine (FnAgree_calls A0 n c W hC).mono fun e W' ⟨he, hb⟩ => ?_
  subst he
  exact ⟨_, rfl, law_post (f := Try.f8) (s := Rows.fnAgreeSpec) 4 laid_out (by kernel_rfl) rfl (by kernel_rfl) Try.underlying4 hW rfl hb⟩
theorem FnAgree_holds : Rows.FnAgreeSaid :=
  OpenClaim.holds_of_wide 8 Try.f8 rfl rfl rfl rfl rfl rfl rfl ⟨rfl, rfl, rfl, rfl, rfl⟩ rfl rfl rfl rfl rfl (by kernel_rfl) Try.func8 (by kernel_rfl)
    (of_decide_eq_true (by kernel_rfl)) (by unfold Func.isWrapper; rw [if_neg (of_decide_eq_false (by kernel_rfl))]; exact ⟨rfl, rfl⟩)
    (fun os started H enc _ => FnAgree_lifted os started H enc)

end Go.Proofs.Ytdlomcbnnaafbaa
