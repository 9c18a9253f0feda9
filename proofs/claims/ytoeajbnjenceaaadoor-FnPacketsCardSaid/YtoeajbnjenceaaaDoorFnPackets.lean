/-
  FnPackets returns true for every code: packets are read one after the other. (A tied card: the library's variable errorType holds its handle.)
-/
import Derived.Test.YtoeajbnjenceaaaDoorFromsLaw
import Derived.Test.YtoeajbnjenceaaaDoorDoor
set_option linter.unusedVariables false
set_option linter.unusedSimpArgs false
namespace Go.Proofs.YtoeajbnjenceaaaDoor
open Go.ChangeShapes Go.WideShapes Go.ChangeAt Go.RowKit

set_option maxHeartbeats 4000000 in
theorem FnPackets_small (A : Option Addr) (n c : Nat) (w : World) (hC : Code w A n c) (hE : ErrT w) : Calls Tryd.prog 5 #[.slice A n c] w fun e w' => e = .returned (.bool true) ∧ Below w.heap.size w w' := by
  have hn : n ≤ 1048576 := hC.elim fun _ h => h.2.2.1
  have hn2 : ¬ 1048576 < n := by omega
  go_enter Tryd.func5, Tryd.ntmps5
  go_wp2_with fail
  (with_reducible refine (DrawPacketsBytes_any _ _ _ _ hC).mono ?_); rintro e w1 ⟨A1, n1, c1, ss, xss, rfl, hn1, hx1, hf1, hc1, hd1, hb1⟩; have hz1 := hb1.size; (try simp at hz1)
  have HX := Lib.hid hx1.len
  have ht : tot xss ≤ 1048576 := by have h1 := hf1.tot; have h2 := HX.out; omega
  go_wp2_with fail
  (with_reducible refine (impl_PacketsBytes _ _ _ _ _ _ hx1 (by omega) ht).mono ?_); rintro e w2 ⟨A2, m2, c2, rfl, hm2, ho2, hc2, hd2, hb2⟩; have hz2 := hb2.size; (try simp at hz2)
  have HM2 := Lib.hid hm2
  clear hm2
  have hx2 := hx1.below hb2
  go_wp2_with fail
  (with_reducible refine (spec_PacketsBytes _ _ _ _ _ _ hx2 (by omega) ht).mono ?_); rintro e w3 ⟨A3, m3, c3, rfl, hm3, ho3, hc3, hd3, hb3⟩; have hz3 := hb3.size; (try simp at hz3)
  obtain rfl : m2 = m3 := HM2.out.trans hm3.symm
  clear hm3
  have hx3 := hx2.below hb3
  have g3 := own_below ho2 hb3
  have hml : m2 ≤ 410 := by
    have h1 := HM2.out
    have h2 := packsOut_len xss
    have h3 := HX.out
    omega
  have hml2 : ¬ 450 < (m2 : Int) := by omega
  have B3 : Below w.heap.size w w3 := (by repeat (first | (with_reducible exact b_refl _) | (with_reducible refine b_alloc ?_ _) | (with_reducible refine b_drew ?_) | (with_reducible refine b_drewN ?_ _) | (with_reducible refine b_set ?_ ?_ _) | (with_reducible refine b_trans ?_ (by assumption)) | (with_reducible refine b_only ?_ (by assumption) ?_) | omega | (focus (simp; done)) | (focus (simp; omega))))
  by_cases hok : packsOk xss = true
  case' neg =>
    have hf : packsOk xss = false := by simpa using hok
    rw [hf]
    rw [packsOut_no hf] at g3 ho3 HM2
    clear hok
    go_wp2_with fail
    (with_reducible refine (sameInts_any A2 A3 m2 m2 c2 c3 _ _ _ (Ints.of_own g3) (Ints.of_own ho3) (by omega) (by omega)).mono ?_); rintro e w4 ⟨rfl, hb4⟩; have hz4 := hb4.size; (try simp at hz4)
    go_wp2_with fail
    (with_reducible refine (sameInts_any A2 A3 m2 m2 c2 c3 _ _ _ (Ints.of_own (own_below g3 hb4)) (Ints.of_own (own_below ho3 hb4)) (by omega) (by omega)).mono ?_); rintro e w5 ⟨rfl, hb5⟩; have hz5 := hb5.size; (try simp at hz5)
    go_wp2
    go_ret
    exact ⟨ret_bool (by simp), b_trans (b_trans B3 hb4) hb5⟩
  rw [hok]
  rw [packsOut_yes hok] at g3 ho3 HM2
  go_wp2_with fail
  (with_reducible refine (sameInts_any A2 A3 m2 m2 c2 c3 _ _ _ (Ints.of_own g3) (Ints.of_own ho3) (by omega) (by omega)).mono ?_); rintro e w4 ⟨rfl, hb4⟩; have hz4 := hb4.size; (try simp at hz4)
  have g4 := own_below g3 hb4
  have hx4 := hx3.below hb4
  have B4 : Below w.heap.size w w4 := b_trans B3 hb4
  have hE4 := hE.below B4
  have HO := Lib.hid hok
  clear hok
  go_wp2_with fail
  (with_reducible refine (impl_PacketsFrom A2 m2 c2 (packedAll xss) _ (Ints.of_own g4) hc2 hd2 (by omega) hE4).mono ?_); rintro e w5 ⟨A5, n5, c5, s5, B5, m5, d5, rfl, ho5, hr5, _, hb5⟩; have hz5 := hb5.size; (try simp at hz5)
  have hk := fok_packedAll HO.out
  have hp := pst_packedAll (packsOk_parts HO.out).1
  rw [fout_yes hk, hp] at ho5
  rw [frest_yes hk, hp] at hr5
  rw [fbad_yes hk, hp]
  clear hk hp
  obtain rfl : n5 = n1 := by have h1 := ho5.len; have h2 := HX.out; simp only at h1; omega
  obtain rfl : m5 = 0 := by have := hr5.1; simpa using this.symm
  have hx5 := hx4.below hb5
  go_wp2_with fail
  (with_reducible refine (samePackets_same A5 A1 n5 c5 c1 s5 ss xss _ ho5.read hx5 (by omega) ht).mono ?_); rintro e w6 ⟨rfl, hb6⟩; have hz6 := hb6.size; (try simp at hz6)
  go_wp2
  go_ret
  exact ⟨rfl, b_trans (b_trans B4 hb5) hb6⟩
set_option maxHeartbeats 1000000 in
theorem FnPackets_calls (A : Option Addr) (n c : Nat) (w : World) (hC : CodeIn w A n c) (hE : ErrT w) : Calls Tryd.prog 5 #[.slice A n c] w fun e w' => e = .returned (.bool true) ∧ Below w.heap.size w w' := by
  by_cases hn : n ≤ 1048576
  · exact FnPackets_small A n c w (hC.code hn) hE
  · have hl := hC.len
    have hn2 : (1048576 : Int) < n := by omega
    go_enter Tryd.func5, Tryd.ntmps5
    go_wp2
    go_ret
    exact ⟨rfl, b_refl _⟩
set_option maxRecDepth 100000 in
theorem FnPackets_lifted (os : Os) (started : os.Started) (H : Type) (enc : TypeId × Value → H) :
    ReturnsInHanded {} Tryd.checked os 5 .any (fun w args => (Rows.fnPacketsSpec.pre enc Tryd.prog Tryd.f5 [] false w args ∧ laidMetH Tryd.prog laidE w) ∧ sizedMet enc Tryd.prog Tryd.f5 (OpenSpec.ofChange Rows.fnPacketsSpec) false w args)
      (Rows.fnPacketsSpec.post enc Tryd.prog Tryd.f5 false true false false) := by
  refine returnsInHanded_of_change_and (C := Tryd.checked) (X := fun w _ => laidMetH Tryd.prog laidE w) (fun _ _ _ hh h => h.of_heap hh) own started (by kernel_rfl) Tryd.func5
    (ChangeSpec.witness_at (enc := enc) (C := Tryd.checked) (os := os) (X := fun w _ => laidMetH Tryd.prog laidE w) false (laidWorld os) #[.slice none 0 0] 8 rfl (by kernel_rfl) (by kernel_rfl) (by kernel_rfl) (by kernel_rfl) (by kernel_rfl) (laidWorld_met os _)) ?_
  intro W base args ds gs before hval0 hW _ _ hL _
  have hval : ∀ (j : Nat) t v, Tryd.f5.params[j]? = some t → args[j]? = some v → Value.okWide Tryd.prog W .any base t v := hval0
  have hW2 := hW
  obtain ⟨p, q, hA0, hV, rfl, _, _⟩ := hW2
  have hA : DataW.TrodAll enc Tryd.prog W 0 (fun _ => true) true Tryd.f5.params.toList args.toList ds p := hA0
  rw [Tryd.params5] at hA hval
  obtain ⟨v0, d0, rfl, rfl, h0⟩ := trodAll_one hA
  obtain ⟨rfl, rfl⟩ := trodVars_none hV
  obtain ⟨A0, n, c, rfl, hC⟩ := open_code (hval 0 _ v0 rfl rfl) h0
  have hE := handle_of_laid hL
  refine (FnPackets_calls A0 n c W hC hE).mono fun e W' ⟨he, hb⟩ => ?_
  subst he
  exact ⟨_, rfl, law_post (f := Tryd.f5) (s := Rows.fnPacketsSpec) 4 laid_out (by kernel_rfl) rfl (by kernel_rfl) Tryd.underlying4 hW rfl hb⟩
theorem FnPackets_row : Rows.FnPacketsSaid :=
  OpenClaim.holds_of_wide 5 Tryd.f5 rfl rfl rfl rfl rfl rfl rfl ⟨rfl, rfl, rfl, rfl, rfl⟩ rfl rfl rfl rfl rfl (by kernel_rfl) Tryd.func5 (by kernel_rfl)
    (of_decide_eq_true (by kernel_rfl)) (by unfold Func.isWrapper; rw [if_neg (of_decide_eq_false (by kernel_rfl))]; exact ⟨rfl, rfl⟩)
    (fun os started H enc _ => FnPackets_lifted os started H enc)
theorem FnPackets_holds : Rows.FnPacketsCardSaid :=
  Claim7.holds_tied_plain_at .later [] [.handle] true _ true
    FnPackets_row (fun _ h => by cases h) (by kernel_rfl) (fun _ h => by cases h) fnPackets_row_tie rfl ⟨rfl, rfl⟩ (by kernel_rfl) rfl
    (fun f fn hf hfn => by
      obtain rfl : f = 5 := Option.some.inj ((show Tryd.prog.funcNamed "loop.example/serialpair/laws.FnPackets" = some 5 by kernel_rfl).symm.trans hf) |>.symm
      obtain rfl : fn = Tryd.f5 := (Option.some.inj (Tryd.func5.symm.trans hfn)).symm
      exact ⟨by kernel_rfl, fun j t ht => by
        rw [Tryd.params5] at ht
        rcases j with _ | _ | j <;> simp at ht <;> subst ht <;> kernel_rfl⟩)
    (by kernel_rfl)

end Go.Proofs.YtoeajbnjenceaaaDoor
