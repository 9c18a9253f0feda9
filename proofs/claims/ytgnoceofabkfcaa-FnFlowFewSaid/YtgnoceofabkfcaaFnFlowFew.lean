/-
  FnFlowFew returns true for every code: between two changes both limits are crossed.
-/
import Derived.Test.YtgnoceofabkfcaaFlowRun
import Derived.Test.YtgnoceofabkfcaaRow
set_option linter.unusedVariables false
set_option linter.unusedSimpArgs false
namespace Go.Proofs.Ytgnoceofabkfcaa
open Go.ChangeShapes Go.WideShapes Go.ChangeAt Go.RowKit

set_option maxHeartbeats 4000000 in
theorem FnFlowFew_small (A : Option Addr) (n c : Nat) (w : World) (hC : Code w A n c) : Calls Try.prog 11 #[.slice A n c] w fun e w' => e = .returned (.bool true) ∧ Below w.heap.size w w' := by
  have hn : n ≤ 1048576 := hC.elim fun _ h => h.2.2.1
  have hn2 : ¬ 1048576 < n := by omega
  go_enter Try.func11, Try.ntmps11
  go_wp2_with fail
  (with_reducible refine (DrawFlowRun_any _ _ _ _ hC).mono ?_); rintro e w1 ⟨h, l, A2, m, c2, b, xs, rfl, hm, ho1, hb1⟩; have hz1 := hb1.size; (try simp at hz1)
  have hx1 : Ints (w1.alloc (.cells #[.int .i64 h, .int .i64 l] 25)) A2 m xs := (Ints.of_own ho1).alloc _
  go_wp2_with fail
  (with_reducible refine (impl_FlowRun h l A2 m c2 b xs _ hx1 (by omega)).mono ?_); rintro e w2 ⟨A3, m3, c3, rfl, hm3, ho3, hb2⟩; have hz2 := hb2.size; (try simp at hz2); have F2 := (Blk.new _ _ _).below hb2 (by first | omega | (simp; done) | (simp; omega)); have F2l := F2.lt; have F2c0 := F2.cell 0; have F2f0 := F2.frozen 0; have F2c1 := F2.cell 1; have F2f1 := F2.frozen 1; (try simp at F2c0 F2c1)
  have HM3 := Lib.hid hm3
  clear hm3
  go_wp2_with fail
  (with_reducible refine (spec_FlowRun h l A2 m c2 b xs _ (hx1.below hb2) (by omega)).mono ?_); rintro e w3 ⟨A4, m4, c4, rfl, hm4, ho4, hb3⟩; have hz3 := hb3.size; (try simp at hz3); have F3 := (F2).below hb3 (by first | omega | (simp; done) | (simp; omega)); have F3l := F3.lt; have F3c0 := F3.cell 0; have F3f0 := F3.frozen 0; have F3c1 := F3.cell 1; have F3f1 := F3.frozen 1; (try simp at F3c0 F3c1)
  obtain rfl : m3 = m4 := HM3.out.trans hm4.symm
  clear hm4
  have hx3 := (hx1.below hb2).below hb3
  have ho33 := own_below ho3 hb3
  have B3 : Below w.heap.size w w3 := b_trans (b_trans (b_alloc hb1 _) hb2) hb3
  have hml : m3 ≤ 41 := by
    have h1 := HM3.out
    unfold flowAll at h1
    split at h1
    · rw [flowRun_length, hx1.len] at h1; omega
    · simp at h1; omega
  go_wp2_with fail
  (with_reducible refine (sameBools_any A3 A4 m3 m3 c3 c4 _ _ _ (Bools.of_own ho33) (Bools.of_own ho4) (by omega) (by omega)).mono ?_); rintro e w4 ⟨rfl, hb4⟩; have hz4 := hb4.size; (try simp at hz4); have F4 := (F3).below hb4 (by first | omega | (simp; done) | (simp; omega)); have F4l := F4.lt; have F4c0 := F4.cell 0; have F4f0 := F4.frozen 0; have F4c1 := F4.cell 1; have F4f1 := F4.frozen 1; (try simp at F4c0 F4c1)
  by_cases h0 : m3 = 0
  · subst h0
    have H3 := Lib.hid HM3
    clear HM3
    go_wp2_with fail
    (with_reducible refine (sameBools_any A3 A4 0 0 c3 c4 _ _ _ (Bools.of_own (own_below ho33 hb4)) (Bools.of_own (own_below ho4 hb4)) (by omega) (by omega)).mono ?_); rintro e w5 ⟨rfl, hb5⟩; have hz5 := hb5.size; (try simp at hz5)
    go_wp2
    go_ret
    exact ⟨ret_bool (by simp), b_trans (b_trans B3 hb4) hb5⟩
  · have hne : ((m3 : Int) == 0) = false := by simp; omega
    have hall : flowOk h l = true ∧ xs.length ≤ 40 := by
      by_cases hh : flowOk h l = true ∧ xs.length ≤ 40
      · exact hh
      · exfalso
        have h1 := HM3.out
        rw [flowAll_no hh] at h1
        exact h0 h1
    have hmm : m3 = m := by
      have h1 := HM3.out
      rw [flowAll_yes hall.1 hall.2, flowRun_length, hx1.len] at h1
      exact h1
    subst hmm
    rw [flowAll_yes hall.1 hall.2] at ho33
    have HO := Lib.hid hall.1
    have hx4 := hx3.below hb4
    have g4 : Bools w4 A3 m3 (flowRun h l b xs) := (Bools.of_own ho33).below hb4
    have B4 : Below w.heap.size w w4 := b_trans B3 hb4
    clear hall HM3 h0 hm ho1 ho3 ho33 ho4 hx1 hx3 F2 F3 hb1 hb2 hb3 hb4 B3
    go_wp2
    go_loopw [8, 9] (fun sl i wr => ∃ (k : Nat) (s : Bool), k ≤ m3 ∧ i = .int .i64 k ∧ sl = .bool s ∧ Below w4.heap.size w4 wr ∧ Hid (s = flowLast h l b (xs.take k))) (fun _ i _ => m3 - (intOf i).toNat)
    case atStart => exact ⟨0, b, Nat.zero_le _, rfl, rfl, b_refl _, rfl⟩
    case round =>
      obtain ⟨k, s, hk, rfl, rfl, hbr, HS⟩ := hrel
      have Fr := F4.below hbr F4l
      have Frl := Fr.lt
      have fr0 := Fr.cell 0
      have fr1 := Fr.cell 1
      simp at fr0 fr1
      by_cases hlt : k < m3
      · obtain ⟨bb, o, x, rfl, hb, ex, hc0⟩ := hx4.at_ hlt
        obtain ⟨bb', o', y, rfl, hb', ey, hc0'⟩ := g4.at_ hlt
        rw [flowRun_get b xs k x ex, ← HS.out] at ey
        injection ey with ey
        subst ey
        have hc := (hbr.cell (p := ⟨bb, o + k, none⟩) hb).trans hc0
        have hc' := (hbr.cell (p := ⟨bb', o' + k, none⟩) hb').trans hc0'
        have HS2 : Hid (flowNext h l x s = flowLast h l b (xs.take (k + 1))) := by
          show _ = _
          rw [take_snoc ex, flowLast_snoc, ← HS.out]
        have hsz := hbr.size
        clear ex hc0 hc0' HS
        have hq : flowNext h l x s = s ∨ (flowNext h l x s = true ∧ s = false ∧ x ≤ l) ∨ (flowNext h l x s = false ∧ s = true ∧ h ≤ x) := flow_few HO.out
        generalize flowNext h l x s = y at *
        rcases hq with rfl | ⟨rfl, rfl, hx⟩ | ⟨rfl, rfl, hx⟩
        · have e1 : (y != y) = false := by simp
          go_wp2_with fail
          go_quiet (fail)
          go_wp2
          go_roundw
          case rel => exact ⟨k + 1, _, by omega, by go_num, rfl, b_drewN hbr _, HS2⟩
          case measure => simp [intOf]; omega
        · have e1 : ¬ l < x := by omega
          have e2 : decide (l < x) = false := by simp; omega
          go_wp2_with fail
          go_quiet (fail)
          go_wp2
          go_roundw
          case rel => exact ⟨k + 1, _, by omega, by go_num, rfl, b_drewN hbr _, HS2⟩
          case measure => simp [intOf]; omega
        · have e1 : ¬ x < h := by omega
          have e2 : decide (x < h) = false := by simp; omega
          go_wp2_with fail
          go_quiet (fail)
          go_wp2
          go_roundw
          case rel => exact ⟨k + 1, _, by omega, by go_num, rfl, b_drewN hbr _, HS2⟩
          case measure => simp [intOf]; omega
      · obtain rfl : k = m3 := by omega
        go_wp2
        go_ret
        exact ⟨rfl, b_trans B4 hbr⟩
set_option maxHeartbeats 1000000 in
theorem FnFlowFew_calls (A : Option Addr) (n c : Nat) (w : World) (hC : CodeIn w A n c) : Calls Try.prog 11 #[.slice A n c] w fun e w' => e = .returned (.bool true) ∧ Below w.heap.size w w' := by
  by_cases hn : n ≤ 1048576
  · exact FnFlowFew_small A n c w (hC.code hn)
  · have hl := hC.len
    have hn2 : (1048576 : Int) < n := by omega
    go_enter Try.func11, Try.ntmps11
    go_wp2
    go_ret
    exact ⟨rfl, b_refl _⟩
set_option maxRecDepth 100000 in
theorem FnFlowFew_lifted (os : Os) (started : os.Started) (H : Type) (enc : TypeId × Value → H) :
    ReturnsInHanded {} Try.checked os 11 .any (Rows.fnFlowFewSpec.pre6 enc Try.prog Try.f11 Rows.fnFlowFewRow.domain false) (Rows.fnFlowFewSpec.post enc Try.prog Try.f11 false true false false) := by
  refine returnsInHanded_of_change (C := Try.checked) own started (by kernel_rfl) Try.func11
    (ChangeSpec.witness6 (enc := enc) (C := Try.checked) false ⟨#[], #[.slice none 0 0], []⟩ 8 (by kernel_rfl) (by kernel_rfl) (by kernel_rfl) (by kernel_rfl)) ?_
  intro W base args ds gs before hval0 hW _ _
  have hval : ∀ (j : Nat) t v, Try.f11.params[j]? = some t → args[j]? = some v → Value.okWide Try.prog W .any base t v := hval0
  have hW2 := hW
  obtain ⟨p, q, hA0, hV, rfl, _, _⟩ := hW2
  have hA : DataW.TrodAll enc Try.prog W 0 (fun _ => true) true Try.f11.params.toList args.toList ds p := hA0
  rw [Try.params11] at hA hval
  obtain ⟨v0, d0, rfl, rfl, h0⟩ := trodAll_one hA
  obtain ⟨rfl, rfl⟩ := trodVars_none hV
  obtain ⟨A0, n, c, rfl, hC⟩ := open_code (hval 0 _ v0 rfl rfl) h0
  refine (FnFlowFew_calls A0 n c W hC).mono fun e W' ⟨he, hb⟩ => ?_
  subst he
  exact ⟨_, rfl, law_post (f := Try.f11) (s := Rows.fnFlowFewSpec) 4 laid_out (by kernel_rfl) rfl (by kernel_rfl) Try.underlying4 hW rfl hb⟩
theorem FnFlowFew_holds : Rows.FnFlowFewSaid :=
  OpenClaim.holds_of_wide 11 Try.f11 rfl rfl rfl rfl rfl rfl rfl ⟨rfl, rfl, rfl, rfl, rfl⟩ rfl rfl rfl rfl rfl (by kernel_rfl) Try.func11 (by kernel_rfl)
    (of_decide_eq_true (by kernel_rfl)) (by unfold Func.isWrapper; rw [if_neg (of_decide_eq_false (by kernel_rfl))]; exact ⟨rfl, rfl⟩)
    (fun os started H enc _ => FnFlowFew_lifted os started H enc)

end Go.Proofs.Ytgnoceofabkfcaa
