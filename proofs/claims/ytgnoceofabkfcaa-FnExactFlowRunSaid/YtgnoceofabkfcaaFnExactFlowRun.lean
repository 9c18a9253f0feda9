/-
  FnExactFlowRun returns true for all limits, counts and truths: the program's FlowRun returns what the reference's returns, leaves its argument alone, and its results share no memory.
-/
import Derived.Test.YtgnoceofabkfcaaFlowRun
import Derived.Test.YtgnoceofabkfcaaRowFlow
set_option linter.unusedVariables false
set_option linter.unusedSimpArgs false
namespace Go.Proofs.Ytgnoceofabkfcaa
open Go.ChangeShapes Go.WideShapes Go.ChangeAt Go.RowKit

set_option maxHeartbeats 4000000 in
theorem FnExactFlowRun_small (a b : Int) (A : Option Addr) (n c : Nat) (t : Bool) (xs : List Int) (w : World) (hx : Ints w A n xs) (hn : n ≤ 1048576) :
    Calls Try.prog 9 #[.agg #[.int .i64 a, .int .i64 b], .slice A n c, .bool t] w fun e w' => e = .returned (.bool true) ∧ Below w.heap.size w w' := by
  have hni : ¬ (1048576 : Int) < n := by omega
  go_enter Try.func9, Try.ntmps9
  go_wp2_with fail
  (with_reducible refine (toFlow_any a b _).mono ?_); rintro e w1 ⟨rfl, hb1⟩; have hz1 := hb1.size; (try simp at hz1); have F1 := (Blk.new _ _ _).below hb1 (by first | omega | (simp; done) | (simp; omega)); have F1l := F1.lt; have F1c0 := F1.cell 0; have F1f0 := F1.frozen 0; have F1c1 := F1.cell 1; have F1f1 := F1.frozen 1; (try simp at F1c0 F1c1)
  have B1 : Below w.heap.size w w1 := (by repeat (first | (with_reducible exact b_refl _) | (with_reducible refine b_alloc ?_ _) | (with_reducible refine b_drew ?_) | (with_reducible refine b_drewN ?_ _) | (with_reducible refine b_set ?_ ?_ _) | (with_reducible refine b_trans ?_ (by assumption)) | (with_reducible refine b_only ?_ (by assumption) ?_) | omega | (focus (simp; done)) | (focus (simp; omega))))
  go_wp2_with fail
  (with_reducible refine (toIntS_any A n c xs _ (hx.below B1) (by omega)).mono ?_); rintro e w2 ⟨A2, c2, rfl, ho2, hb2⟩; have hz2 := hb2.size; (try simp at hz2); have F2 := (F1).below hb2 (by first | omega | (simp; done) | (simp; omega)); have F2l := F2.lt; have F2c0 := F2.cell 0; have F2f0 := F2.frozen 0; have F2c1 := F2.cell 1; have F2f1 := F2.frozen 1; (try simp at F2c0 F2c1)
  go_wp2_with fail
  (with_reducible refine (spec_FlowRun a b A2 n c2 t xs _ (Ints.of_own ho2) (by omega)).mono ?_); rintro e w3 ⟨A3, m3, c3, rfl, hm3, ho3, hb3⟩; have hz3 := hb3.size; (try simp at hz3); have F3 := (F2).below hb3 (by first | omega | (simp; done) | (simp; omega)); have F3l := F3.lt; have F3c0 := F3.cell 0; have F3f0 := F3.frozen 0; have F3c1 := F3.cell 1; have F3f1 := F3.frozen 1; (try simp at F3c0 F3c1)
  have HM3 := Lib.hid hm3
  clear hm3
  have B3 : Below w.heap.size w w3 := b_trans (b_trans B1 hb2) hb3
  go_wp2_with fail
  (with_reducible refine (toIntS_any A n c xs _ (hx.below B3) (by omega)).mono ?_); rintro e w4 ⟨A4, c4, rfl, ho4, hb4⟩; have hz4 := hb4.size; (try simp at hz4); have F4 := (F3).below hb4 (by first | omega | (simp; done) | (simp; omega)); have F4l := F4.lt; have F4c0 := F4.cell 0; have F4f0 := F4.frozen 0; have F4c1 := F4.cell 1; have F4f1 := F4.frozen 1; (try simp at F4c0 F4c1)
  go_wp2_with fail
  (with_reducible refine (toFlow_any a b _).mono ?_); rintro e w5 ⟨rfl, hb5⟩; have hz5 := hb5.size; (try simp at hz5); have F5 := (F4).below hb5 (by first | omega | (simp; done) | (simp; omega)); have F5l := F5.lt; have F5c0 := F5.cell 0; have F5f0 := F5.frozen 0; have F5c1 := F5.cell 1; have F5f1 := F5.frozen 1; (try simp at F5c0 F5c1)
  have x5 := own_below ho4 hb5
  go_wp2_with fail
  (with_reducible refine (impl_FlowRun a b A4 n c4 t xs _ (Ints.of_own x5) (by omega)).mono ?_); rintro e w6 ⟨A6, m6, c6, rfl, hm6, ho6, hb6⟩; have hz6 := hb6.size; (try simp at hz6); have F6 := (F5).below hb6 (by first | omega | (simp; done) | (simp; omega)); have F6l := F6.lt; have F6c0 := F6.cell 0; have F6f0 := F6.frozen 0; have F6c1 := F6.cell 1; have F6f1 := F6.frozen 1; (try simp at F6c0 F6c1)
  have B6 : Below w.heap.size w w6 := b_trans (b_trans (b_trans B3 hb4) hb5) hb6
  obtain rfl : m3 = m6 := HM3.out.trans hm6.symm
  have HM := Lib.hid hm6
  clear HM3 hm6
  have hml : m3 ≤ 1048576 := by
    have h1 := HM.out
    unfold flowAll at h1
    split at h1
    · rw [flowRun_length, hx.len] at h1; omega
    · simp at h1; omega
  generalize hys : flowAll a b t xs = ys at *
  have HY := Lib.hid hys
  clear hys
  have w6r := own_below (own_below (own_below ho3 hb4) hb5) hb6
  go_wp2_with fail
  (with_reducible refine (eqBoolS_any A6 A3 m3 m3 c6 c3 ys ys _ (Bools.of_own ho6) (Bools.of_own w6r) (by omega) (by omega)).mono ?_); rintro e w7 ⟨rfl, hb7⟩; have hz7 := hb7.size; (try simp at hz7); have F7 := (F6).below hb7 (by first | omega | (simp; done) | (simp; omega)); have F7l := F7.lt; have F7c0 := F7.cell 0; have F7f0 := F7.frozen 0; have F7c1 := F7.cell 1; have F7f1 := F7.frozen 1; (try simp at F7c0 F7c1)
  go_wp2_with fail
  (with_reducible refine (toIntS_any A n c xs _ (hx.below (b_trans B6 hb7)) (by omega)).mono ?_); rintro e w8 ⟨A8, c8, rfl, ho8, hb8⟩; have hz8 := hb8.size; (try simp at hz8); have F8 := (F7).below hb8 (by first | omega | (simp; done) | (simp; omega)); have F8l := F8.lt; have F8c0 := F8.cell 0; have F8f0 := F8.frozen 0; have F8c1 := F8.cell 1; have F8f1 := F8.frozen 1; (try simp at F8c0 F8c1)
  have B8 : Below w.heap.size w w8 := b_trans (b_trans B6 hb7) hb8
  have x8 := own_below (own_below (own_below x5 hb6) hb7) hb8
  go_wp2_with fail
  (with_reducible refine (eqIntS_any A4 A8 n n c4 c8 xs xs _ (Ints.of_own x8) (Ints.of_own ho8) (by omega) (by omega)).mono ?_); rintro e w9 ⟨rfl, hb9⟩; have hz9 := hb9.size; (try simp at hz9); have F9 := (F8).below hb9 (by first | omega | (simp; done) | (simp; omega)); have F9l := F9.lt; have F9c0 := F9.cell 0; have F9f0 := F9.frozen 0; have F9c1 := F9.cell 1; have F9f1 := F9.frozen 1; (try simp at F9c0 F9c1)
  have B9 : Below w.heap.size w w9 := b_trans B8 hb9
  have x9 := own_below x8 hb9
  have g9 := own_below (own_below (own_below ho6 hb7) hb8) hb9
  have r9 := own_below (own_below (own_below w6r hb7) hb8) hb9
  have hg9 := own_apart g9 x5 (Nat.le_refl _)
  have hr9 := own_apart' ho3 ho4 (Nat.le_refl _)
  go_wp2_with fail
  (with_reducible refine (markIntS_any _ A4 n c4 _ 1 _ x9 (by omega) (by omega) (by omega)).mono ?_)
  rintro e w10 ⟨rfl, x10, hg10⟩
  have B10 : Below w.heap.size w w10 := b_own B9 hg10 (fun g hg => by have := (x9.lt g hg).1; omega)
  have g10 := g9.kept hg10 hg9
  have r10 := r9.kept hg10 hr9
  have F10 := F9.grown hg10 (fun e => by have := (x9.lt _ e.symm).1; omega)
  have F10l := F10.lt
  have hq10 : ¬ (1 + (n : Int)) < 0 := by omega
  go_wp2_with fail
  (with_reducible refine (eqBoolS_any A6 A3 m3 m3 c6 c3 ys ys _ (Bools.of_own g10) (Bools.of_own r10) (by omega) (by omega)).mono ?_); rintro e w11 ⟨rfl, hb11⟩; have hz11 := hb11.size; (try simp at hz11); have F11 := (F10).below hb11 (by first | omega | (simp; done) | (simp; omega)); have F11l := F11.lt; have F11c0 := F11.cell 0; have F11f0 := F11.frozen 0; have F11c1 := F11.cell 1; have F11f1 := F11.frozen 1; (try simp at F11c0 F11c1)
  have g11 := own_below g10 hb11
  have r11 := own_below r10 hb11
  go_wp2_with fail
  (with_reducible refine (markBoolS_any _ A6 m3 c6 _ 1 _ g11 (by omega) (by omega) (by omega)).mono ?_)
  rintro e w12 ⟨rfl, g12, hg12⟩
  have hx11 := own_apart' ho3 ho6 (by have := hb4.size; have := hb5.size; omega)
  have r12 := r11.kept hg12 hx11
  have B12 : Below w.heap.size w w12 := b_own (b_trans B10 hb11) hg12 (fun g hg => by have := (g11.lt g hg).1; omega)
  have F12 := F11.grown hg12 (fun e => by have := (g11.lt _ e.symm).1; omega)
  have f120 := F12.cell 0
  have f121 := F12.cell 1
  simp at f120 f121
  have hq12 : ¬ (1 + (m3 : Int)) < 0 := by omega
  go_wp2_with fail
  (with_reducible refine (heldBoolS_any A6 m3 c6 1 _ (Bools.of_own g12) (by omega) (by omega) (by omega)).mono ?_)
  rintro e w13 ⟨rfl, rfl⟩
  go_wp2_with fail
  (with_reducible refine (toFlow_any a b _).mono ?_); rintro e w14 ⟨rfl, hb14⟩; have hz14 := hb14.size; (try simp at hz14)
  have B14 : Below w.heap.size w w14 := b_trans B12 hb14
  go_wp2_with fail
  (with_reducible refine (toIntS_any A n c xs _ (hx.below B14) (by omega)).mono ?_); rintro e w15 ⟨A15, c15, rfl, ho15, hb15⟩; have hz15 := hb15.size; (try simp at hz15)
  go_wp2_with fail
  (with_reducible refine (impl_FlowRun a b A15 n c15 t xs _ (Ints.of_own ho15) (by omega)).mono ?_); rintro e w16 ⟨A16, m16, c16, rfl, hm16, ho16, hb16⟩; have hz16 := hb16.size; (try simp at hz16)
  rw [HY.out] at hm16 ho16
  obtain rfl : m3 = m16 := HM.out.trans hm16.symm
  clear hm16
  have r16 := own_below (own_below (own_below r12 hb14) hb15) hb16
  have g16 := own_below (own_below (own_below g12 hb14) hb15) hb16
  have B16 : Below w.heap.size w w16 := b_trans (b_trans B14 hb15) hb16
  go_wp2_with fail
  (with_reducible refine (eqBoolS_any A16 A3 m3 m3 c16 c3 ys ys _ (Bools.of_own ho16) (Bools.of_own r16) (by omega) (by omega)).mono ?_); rintro e w17 ⟨rfl, hb17⟩; have hz17 := hb17.size; (try simp at hz17)
  go_wp2_with fail
  (with_reducible refine (heldBoolS_any A6 m3 c6 1 _ (Bools.of_own (own_below g16 hb17)) (by omega) (by omega) (by omega)).mono ?_)
  rintro e w18 ⟨rfl, rfl⟩
  go_wp2
  go_ret
  exact ⟨rfl, b_trans B16 hb17⟩
set_option maxHeartbeats 1000000 in
theorem FnExactFlowRun_calls (a b : Int) (A : Option Addr) (n c : Nat) (t : Bool) (xs : List Int) (w : World) (hx : Ints w A n xs) (hn : n ≤ 9223372036854775807) :
    Calls Try.prog 9 #[.agg #[.int .i64 a, .int .i64 b], .slice A n c, .bool t] w fun e w' => e = .returned (.bool true) ∧ Below w.heap.size w w' := by
  by_cases h1 : n ≤ 1048576
  · exact FnExactFlowRun_small a b A n c t xs w hx h1
  · have h2 : (1048576 : Int) < n := by omega
    go_enter Try.func9, Try.ntmps9
    go_wp2
    go_ret
    exact ⟨rfl, (by repeat (first | (with_reducible exact b_refl _) | (with_reducible refine b_alloc ?_ _) | (with_reducible refine b_drew ?_) | (with_reducible refine b_drewN ?_ _) | (with_reducible refine b_set ?_ ?_ _) | (with_reducible refine b_trans ?_ (by assumption)) | (with_reducible refine b_only ?_ (by assumption) ?_) | omega | (focus (simp; done)) | (focus (simp; omega))))⟩
set_option maxRecDepth 100000 in
theorem FnExactFlowRun_lifted (os : Os) (started : os.Started) (H : Type) (enc : TypeId × Value → H) :
    ReturnsInHanded {} Try.checked os 9 .any (Rows.fnExactFlowRunSpec.pre6 enc Try.prog Try.f9 Rows.fnExactFlowRunRow.domain false) (Rows.fnExactFlowRunSpec.post enc Try.prog Try.f9 false true false false) := by
  refine returnsInHanded_of_change (C := Try.checked) own started (by kernel_rfl) Try.func9
    (ChangeSpec.witness6 (enc := enc) (C := Try.checked) false ⟨#[], #[.agg #[.int .i64 0, .int .i64 0], .slice none 0 0, .bool false], []⟩ 8 (by kernel_rfl) (by kernel_rfl) (by kernel_rfl) (by kernel_rfl)) ?_
  intro W base args ds gs before hval0 hW _ _
  have hval : ∀ (j : Nat) t v, Try.f9.params[j]? = some t → args[j]? = some v → Value.okWide Try.prog W .any base t v := hval0
  have hW2 := hW
  obtain ⟨p, q, hA0, hV, rfl, _, _⟩ := hW2
  have hA : DataW.TrodAll enc Try.prog W 0 (fun _ => true) true Try.f9.params.toList args.toList ds p := hA0
  rw [Try.params9] at hA hval
  obtain ⟨v0, v1, v2, d0, d1, d2, p0, p1, p2, rfl, rfl, rfl, h0, h1, h2⟩ := trodAll_three hA
  obtain ⟨rfl, rfl⟩ := trodVars_none hV
  obtain ⟨a, b, rfl⟩ := open_flow (hval 0 _ v0 rfl rfl) h0; obtain ⟨A1, n1, c1, xs, rfl, hx, _, hc1, hm1⟩ := open_row Try.underlying36 Try.underlying3 (by kernel_rfl) (hval 1 _ v1 rfl rfl) h1; obtain ⟨t, rfl, rfl, rfl⟩ := open_bool Try.underlying4 (hval 2 _ v2 rfl rfl) h2
  refine (FnExactFlowRun_calls a b A1 n1 c1 t xs W hx (by unfold maxLen at hm1; omega)).mono fun e W' ⟨he, hb⟩ => ?_
  subst he
  exact ⟨_, rfl, law_post (f := Try.f9) (s := Rows.fnExactFlowRunSpec) 4 laid_out (by kernel_rfl) rfl (by kernel_rfl) Try.underlying4 hW rfl hb⟩
theorem FnExactFlowRun_holds : Rows.FnExactFlowRunSaid :=
  OpenClaim.holds_of_wide 9 Try.f9 rfl rfl rfl rfl rfl rfl rfl ⟨rfl, rfl, rfl, rfl, rfl⟩ rfl rfl rfl rfl rfl (by kernel_rfl) Try.func9 (by kernel_rfl)
    (of_decide_eq_true (by kernel_rfl)) (by unfold Func.isWrapper; rw [if_neg (of_decide_eq_false (by kernel_rfl))]; exact ⟨rfl, rfl⟩)
    (fun os started H enc _ => FnExactFlowRun_lifted os started H enc)

end Go.Proofs.Ytgnoceofabkfcaa
