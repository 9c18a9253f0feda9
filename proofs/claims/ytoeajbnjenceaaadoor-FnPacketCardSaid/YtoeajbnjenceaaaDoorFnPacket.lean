/-
  FnPacket returns true for every code: a packet is read. (A tied card: the library's variable errorType holds its handle.)
-/
import Derived.Test.YtoeajbnjenceaaaDoorFromsLaw
import Derived.Test.YtoeajbnjenceaaaDoorDoor
set_option linter.unusedVariables false
set_option linter.unusedSimpArgs false
namespace Go.Proofs.YtoeajbnjenceaaaDoor
open Go.ChangeShapes Go.WideShapes Go.ChangeAt Go.RowKit

set_option maxHeartbeats 4000000 in
theorem FnPacket_small (A : Option Addr) (n c : Nat) (w : World) (hC : Code w A n c) (hE : ErrT w) : Calls Tryd.prog 4 #[.slice A n c] w fun e w' => e = .returned (.bool true) ∧ Below w.heap.size w w' := by
  have hn : n ≤ 1048576 := hC.elim fun _ h => h.2.2.1
  have hn2 : ¬ 1048576 < n := by omega
  go_enter Tryd.func4, Tryd.ntmps4
  go_wp2_with fail
  (with_reducible refine (DrawPacketBytes_any _ _ _ _ hC).mono ?_); rintro e w1 ⟨A1, n1, c1, xs, rfl, hn1, hx1, hc1, hd1, hb1⟩; have hz1 := hb1.size; (try simp at hz1)
  have HX := Lib.hid hx1.len
  go_wp2_with fail
  (with_reducible refine (impl_PacketBytes _ _ _ _ _ hx1 (by omega)).mono ?_); rintro e w2 ⟨A2, m2, c2, rfl, hm2, ho2, hc2, hd2, hb2⟩; have hz2 := hb2.size; (try simp at hz2)
  have HM2 := Lib.hid hm2
  clear hm2
  have hx2 := hx1.below hb2
  go_wp2_with fail
  (with_reducible refine (spec_PacketBytes _ _ _ _ _ hx2 (by omega)).mono ?_); rintro e w3 ⟨A3, m3, c3, rfl, hm3, ho3, hc3, hd3, hb3⟩; have hz3 := hb3.size; (try simp at hz3)
  obtain rfl : m2 = m3 := HM2.out.trans hm3.symm
  clear hm3
  have hx3 := hx2.below hb3
  have g3 := own_below ho2 hb3
  have hml : m2 ≤ 60 := by
    have h1 := HM2.out
    have h2 := pack_len xs
    have h3 := HX.out
    omega
  have B3 : Below w.heap.size w w3 := (by repeat (first | (with_reducible exact b_refl _) | (with_reducible refine b_alloc ?_ _) | (with_reducible refine b_drew ?_) | (with_reducible refine b_drewN ?_ _) | (with_reducible refine b_set ?_ ?_ _) | (with_reducible refine b_trans ?_ (by assumption)) | (with_reducible refine b_only ?_ (by assumption) ?_) | omega | (focus (simp; done)) | (focus (simp; omega))))
  by_cases hok : packOk xs = true
  case' neg =>
    have hf : packOk xs = false := by simpa using hok
    rw [hf]
    rw [if_neg hok] at g3 ho3 HM2
    clear hok
    go_wp2_with fail
    (with_reducible refine (sameInts_any A2 A3 m2 m2 c2 c3 _ _ _ (Ints.of_own g3) (Ints.of_own ho3) (by omega) (by omega)).mono ?_); rintro e w4 ⟨rfl, hb4⟩; have hz4 := hb4.size; (try simp at hz4)
    go_wp2_with fail
    (with_reducible refine (sameInts_any A2 A3 m2 m2 c2 c3 _ _ _ (Ints.of_own (own_below g3 hb4)) (Ints.of_own (own_below ho3 hb4)) (by omega) (by omega)).mono ?_); rintro e w5 ⟨rfl, hb5⟩; have hz5 := hb5.size; (try simp at hz5)
    go_wp2
    go_ret
    exact ⟨ret_bool (by simp), b_trans (b_trans B3 hb4) hb5⟩
  rw [hok]
  rw [if_pos hok] at g3 ho3 HM2
  go_wp2_with fail
  (with_reducible refine (sameInts_any A2 A3 m2 m2 c2 c3 _ _ _ (Ints.of_own g3) (Ints.of_own ho3) (by omega) (by omega)).mono ?_); rintro e w4 ⟨rfl, hb4⟩; have hz4 := hb4.size; (try simp at hz4)
  have g4 := own_below g3 hb4
  have hx4 := hx3.below hb4
  have B4 : Below w.heap.size w w4 := b_trans B3 hb4
  have hE4 := hE.below B4
  have HO := Lib.hid hok
  clear hok
  go_wp2_with fail
  (with_reducible refine (impl_PacketsFrom A2 m2 c2 (packed xs) _ (Ints.of_own g4) hc2 hd2 (by omega) hE4).mono ?_); rintro e w5 ⟨A5, n5, c5, s5, B5, m5, d5, rfl, ho5, hr5, _, hb5⟩; have hz5 := hb5.size; (try simp at hz5)
  have hk := fok_packed HO.out
  rw [fout_yes hk, pst_packed HO.out] at ho5
  rw [frest_yes hk, pst_packed HO.out] at hr5
  rw [fbad_yes hk, pst_packed HO.out]
  clear hk
  obtain rfl : n5 = 1 := by have := ho5.len; simpa using this.symm
  obtain rfl : m5 = 0 := by have := hr5.1; simpa using this.symm
  have hx5 := hx4.below hb5
  go_wp2_with fail
  (with_reducible refine (samePackets_same A5 (some ⟨w5.heap.size, 0, none⟩) 1 c5 1 s5 [(A1, n1, c1)] [xs] _ (ho5.read.alloc _) (Lists.one hx5 hc1 hd1) (by omega) (by have := HX.out; simp [tot]; omega)).mono ?_)
  rintro e w6 ⟨rfl, hb6⟩
  go_wp2
  go_ret
  exact ⟨rfl, b_trans (b_alloc (b_trans B4 hb5) _) hb6⟩
set_option maxHeartbeats 1000000 in
theorem FnPacket_calls (A : Option Addr) (n c : Nat) (w : World) (hC : CodeIn w A n c) (hE : ErrT w) : Calls Tryd.prog 4 #[.slice A n c] w fun e w' => e = .returned (.bool true) ∧ Below w.heap.size w w' := by
  by_cases hn : n ≤ 1048576
  · exact FnPacket_small A n c w (hC.code hn) hE
  · have hl := hC.len
    have hn2 : (1048576 : Int) < n := by omega
    go_enter Tryd.func4, Tryd.ntmps4
    go_wp2
    go_ret
    exact ⟨rfl, b_refl _⟩
set_option maxRecDepth 100000 in
theorem FnPacket_lifted (os : Os) (started : os.Started) (H : Type) (enc : TypeId × Value → H) :
    ReturnsInHanded {} Tryd.checked os 4 .any (fun w args => (Rows.fnPacketSpec.pre enc Tryd.prog Tryd.f4 [] false w args ∧ laidMetH Tryd.prog laidE w) ∧ sizedMet enc Tryd.prog Tryd.f4 (OpenSpec.ofChange Rows.fnPacketSpec) false w args)
      (Rows.fnPacketSpec.post enc Tryd.prog Tryd.f4 false true false false) := by
  refine returnsInHanded_of_change_and (C := Tryd.checked) (X := fun w _ => laidMetH Tryd.prog laidE w) (fun _ _ _ hh h => h.of_heap hh) own started (by kernel_rfl) Tryd.func4
    (ChangeSpec.witness_at (enc := enc) (C := Tryd.checked) (os := os) (X := fun w _ => laidMetH Tryd.prog laidE w) false (laidWorld os) #[.slice none 0 0] 8 rfl (by kernel_rfl) (by kernel_rfl) (by kernel_rfl) (by kernel_rfl) (by kernel_rfl) (laidWorld_met os _)) ?_
  intro W base args ds gs before hval0 hW _ _ hL _
  have hval : ∀ (j : Nat) t v, Tryd.f4.params[j]? = some t → args[j]? = some v → Value.okWide Tryd.prog W .any base t v := hval0
  have hW2 := hW
  obtain ⟨p, q, hA0, hV, rfl, _, _⟩ := hW2
  have hA : DataW.TrodAll enc Tryd.prog W 0 (fun _ => true) true Tryd.f4.params.toList args.toList ds p := hA0
  rw [Tryd.params4] at hA hval
  obtain ⟨v0, d0, rfl, rfl, h0⟩ := trodAll_one hA
  obtain ⟨rfl, rfl⟩ := trodVars_none hV
  obtain ⟨A0, n, c, rfl, hC⟩ := open_code (hval 0 _ v0 rfl rfl) h0
  have hE := handle_of_laid hL
  refine (FnPacket_calls A0 n c W hC hE).mono fun e W' ⟨he, hb⟩ => ?_
  subst he
  exact ⟨_, rfl, law_post (f := Tryd.f4) (s := Rows.fnPacketSpec) 4 laid_out (by kernel_rfl) rfl (by kernel_rfl) Tryd.underlying4 hW rfl hb⟩
theorem FnPacket_row : Rows.FnPacketSaid :=
  OpenClaim.holds_of_wide 4 Tryd.f4 rfl rfl rfl rfl rfl rfl rfl ⟨rfl, rfl, rfl, rfl, rfl⟩ rfl rfl rfl rfl rfl (by kernel_rfl) Tryd.func4 (by kernel_rfl)
    (of_decide_eq_true (by kernel_rfl)) (by unfold Func.isWrapper; rw [if_neg (of_decide_eq_false (by kernel_rfl))]; exact ⟨rfl, rfl⟩)
    (fun os started H enc _ => FnPacket_lifted os started H enc)
theorem FnPacket_holds : Rows.FnPacketCardSaid :=
  Claim7.holds_tied_plain_at .later [] [.handle] true _ true
    FnPacket_row (fun _ h => by cases h) (by kernel_rfl) (fun _ h => by cases h) fnPacket_row_tie rfl ⟨rfl, rfl⟩ (by kernel_rfl) rfl
    (fun f fn hf hfn => by
      obtain rfl : f = 4 := Option.some.inj ((show Tryd.prog.funcNamed "loop.example/serialpair/laws.FnPacket" = some 4 by kernel_rfl).symm.trans hf) |>.symm
      obtain rfl : fn = Tryd.f4 := (Option.some.inj (Tryd.func4.symm.trans hfn)).symm
      exact ⟨by kernel_rfl, fun j t ht => by
        rw [Tryd.params4] at ht
        rcases j with _ | _ | j <;> simp at ht <;> subst ht <;> kernel_rfl⟩)
    (by kernel_rfl)

end Go.Proofs.YtoeajbnjenceaaaDoor
