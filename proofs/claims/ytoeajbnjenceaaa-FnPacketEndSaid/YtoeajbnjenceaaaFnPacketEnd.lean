/-
  FnPacketEnd returns true for every code: a packet ends once.
-/
import Derived.Test.YtoeajbnjenceaaaPacket
import Derived.Test.YtoeajbnjenceaaaPacketDraw
import Derived.Test.YtoeajbnjenceaaaRow
set_option linter.unusedVariables false
set_option linter.unusedSimpArgs false
namespace Go.Proofs.Ytoeajbnjenceaaa
open Go.ChangeShapes Go.WideShapes Go.ChangeAt Go.RowKit

set_option maxHeartbeats 4000000 in
theorem FnPacketEnd_small (A : Option Addr) (n c : Nat) (w : World) (hC : Code w A n c) : Calls Try.prog 5 #[.slice A n c] w fun e w' => e = .returned (.bool true) ∧ Below w.heap.size w w' := by
  have hn : n ≤ 1048576 := hC.elim fun _ h => h.2.2.1
  have hn2 : ¬ 1048576 < n := by omega
  go_enter Try.func5, Try.ntmps5
  go_wp2_with fail
  (with_reducible refine (DrawPacketBytes_any _ _ _ _ hC).mono ?_); rintro e w1 ⟨A1, n1, c1, xs, rfl, hn1, hx1, hc1, hd1, hb1⟩; have hz1 := hb1.size; (try simp at hz1)
  have HX := Lib.hid hx1.len
  go_wp2_with fail
  (with_reducible refine (impl_PacketBytes _ _ _ _ _ hx1 (by omega)).mono ?_); rintro e w2 ⟨A2, m2, c2, rfl, hm2, ho2, hc2, hd2, hb2⟩; have hz2 := hb2.size; (try simp at hz2)
  have HM2 := Lib.hid hm2
  clear hm2
  have hx2 := hx1.below hb2
  go_wp2_with fail
  (with_reducible refine (spec_PacketBytes _ _ _ _ _ hx2 (by omega)).mono ?_); rintro e w3 ⟨A3, m3, c3, rfl, hm3, ho3, hc3, hd3, hb3⟩; have hz3 := hb3.size; (try simp at hz3)
  obtain rfl : m2 = m3 := HM2.out.trans hm3.symm
  clear hm3
  have hx3 := hx2.below hb3
  have g3 := own_below ho2 hb3
  have hml : m2 ≤ 60 := by
    have h1 := HM2.out
    have h2 := pack_len xs
    have h3 := HX.out
    omega
  have B3 : Below w.heap.size w w3 := (by repeat (first | (with_reducible exact b_refl _) | (with_reducible refine b_alloc ?_ _) | (with_reducible refine b_drew ?_) | (with_reducible refine b_drewN ?_ _) | (with_reducible refine b_set ?_ ?_ _) | (with_reducible refine b_trans ?_ (by assumption)) | (with_reducible refine b_only ?_ (by assumption) ?_) | omega | (focus (simp; done)) | (focus (simp; omega))))
  by_cases hok : packOk xs = true
  case' neg =>
    have hf : packOk xs = false := by simpa using hok
    rw [hf]
    rw [if_neg hok] at g3 ho3 HM2
    clear hok
    go_wp2_with fail
    (with_reducible refine (sameInts_any A2 A3 m2 m2 c2 c3 _ _ _ (Ints.of_own g3) (Ints.of_own ho3) (by omega) (by omega)).mono ?_); rintro e w4 ⟨rfl, hb4⟩; have hz4 := hb4.size; (try simp at hz4)
    go_wp2_with fail
    (with_reducible refine (sameInts_any A2 A3 m2 m2 c2 c3 _ _ _ (Ints.of_own (own_below g3 hb4)) (Ints.of_own (own_below ho3 hb4)) (by omega) (by omega)).mono ?_); rintro e w5 ⟨rfl, hb5⟩; have hz5 := hb5.size; (try simp at hz5)
    go_wp2
    go_ret
    exact ⟨ret_bool (by simp), b_trans (b_trans B3 hb4) hb5⟩
  rw [hok]
  rw [if_pos hok] at g3 ho3 HM2
  go_wp2_with fail
  (with_reducible refine (sameInts_any A2 A3 m2 m2 c2 c3 _ _ _ (Ints.of_own g3) (Ints.of_own ho3) (by omega) (by omega)).mono ?_); rintro e w4 ⟨rfl, hb4⟩; have hz4 := hb4.size; (try simp at hz4)
  have g4 := own_below g3 hb4
  have hx4 := hx3.below hb4
  have B4 : Below w.heap.size w w4 := b_trans B3 hb4
  have hp := packOk_parts hok
  have h20 : n1 ≤ 20 := by have := HX.out; omega
  have h1 : 1 ≤ n1 := by have := HX.out; omega
  have hB := Lib.hid hp.1
  obtain ⟨M, HM⟩ : ∃ M : Nat, Hid (M = (escAll xs).length) := ⟨_, rfl⟩
  have hmM : m2 = M + 1 := by
    have h2 := HM2.out
    have h3 := HM.out
    simp [packed] at h2
    omega
  subst hmM
  have g4i := Ints.of_own g4
  clear hok HM2 hp
  go_wp2
  go_loop [8, 9] (fun v i => ∃ (k q : Nat), k ≤ n1 ∧ i = .int .i64 k ∧ v = .int .i64 q ∧ q ≤ n1 + 1 + k ∧ Hid (q + k = n1 + 1 + (escAll (xs.take k)).length)) (fun _ i => n1 - (intOf i).toNat)
  case atStart => exact ⟨0, n1 + 1, Nat.zero_le _, rfl, by simp, by omega, by show _ = _; simp [escAll]⟩
  case round =>
    obtain ⟨k, q, hk, rfl, rfl, hq, HQ⟩ := hrel
    by_cases hlt : k < n1
    · obtain ⟨b, o, x, rfl, hb, ex, hc⟩ := hx4.at_ hlt
      have ET : Hid ((escAll (xs.take (k + 1))).length = (escAll (xs.take k)).length + (esc x).length) := by
        show _ = _
        rw [escAll_take ex, List.length_append]
      clear ex
      by_cases hx1 : x = 192
      · subst hx1
        go_wp2
        go_round
        case rel => exact ⟨k + 1, q + 1, by omega, by go_num, by go_num, by omega, by show _ = _; have h1 := HQ.out; have h2 := ET.out; rw [h2]; simp [esc]; omega⟩
        case measure => simp [intOf]; omega
      · have e1 : (x == 192) = false := by simpa using hx1
        by_cases hx2 : x = 219
        · subst hx2
          go_wp2
          go_round
          case rel => exact ⟨k + 1, q + 1, by omega, by go_num, by go_num, by omega, by show _ = _; have h1 := HQ.out; have h2 := ET.out; rw [h2]; simp [esc]; omega⟩
          case measure => simp [intOf]; omega
        · have e2 : (x == 219) = false := by simpa using hx2
          have EX : Hid ((esc x).length = 1) := by show _ = _; rw [esc, if_neg hx1, if_neg hx2]; rfl
          clear hx1 hx2
          go_wp2
          go_round
          case rel => exact ⟨k + 1, q, by omega, by go_num, by go_num, by omega, by show _ = _; have h1 := HQ.out; have h2 := ET.out; have h3 := EX.out; omega⟩
          case measure => simp [intOf]; omega
    · obtain rfl : k = n1 := by omega
      have hqm : q = M + 1 := by
        have h1 := HQ.out
        rw [List.take_of_length_le (by have := HX.out; omega)] at h1
        have := HM.out
        omega
      subst hqm
      clear HQ hq
      go_wp2
      go_loop [10] (fun i => ∃ j : Nat, j ≤ M ∧ i = .int .i64 j) (fun i => M - (intOf i).toNat)
      case atStart => exact ⟨0, Nat.zero_le _, rfl⟩
      case round =>
        obtain ⟨j, hj, rfl⟩ := hrel
        obtain ⟨b, o, y, hA, hb, ey, hc⟩ := g4i.at_ (k := j) (by omega)
        subst hA
        by_cases hlt2 : j < M
        · have hne : (y == 192) = false := by
            have hm : y ∈ escAll xs := by
              rw [packed, List.getElem?_append_left (by have := HM.out; omega)] at ey
              exact List.mem_of_getElem? ey
            have := escAll_end xs y hm
            simpa using this
          clear ey
          go_wp2
          go_round
          case rel => exact ⟨j + 1, by omega, by go_num⟩
          case measure => simp [intOf]; omega
        · obtain rfl : j = M := by omega
          have hy : y = 192 := by
            have h3 := HM.out
            rw [packed, h3, List.getElem?_append_right (Nat.le_refl _)] at ey
            simpa using ey.symm
          subst hy
          clear ey
          go_wp2
          go_ret
          exact ⟨ret_bool (by simp), B4⟩
set_option maxHeartbeats 1000000 in
theorem FnPacketEnd_calls (A : Option Addr) (n c : Nat) (w : World) (hC : CodeIn w A n c) : Calls Try.prog 5 #[.slice A n c] w fun e w' => e = .returned (.bool true) ∧ Below w.heap.size w w' := by
  by_cases hn : n ≤ 1048576
  · exact FnPacketEnd_small A n c w (hC.code hn)
  · have hl := hC.len
    have hn2 : (1048576 : Int) < n := by omega
    go_enter Try.func5, Try.ntmps5
    go_wp2
    go_ret
    exact ⟨rfl, b_refl _⟩
set_option maxRecDepth 100000 in
theorem FnPacketEnd_lifted (os : Os) (started : os.Started) (H : Type) (enc : TypeId × Value → H) :
    ReturnsInHanded {} Try.checked os 5 .any (Rows.fnPacketEndSpec.pre6 enc Try.prog Try.f5 Rows.fnPacketEndRow.domain false) (Rows.fnPacketEndSpec.post enc Try.prog Try.f5 false true false false) := by
  refine returnsInHanded_of_change (C := Try.checked) own started (by kernel_rfl) Try.func5
    (ChangeSpec.witness6 (enc := enc) (C := Try.checked) false ⟨#[], #[.slice none 0 0], []⟩ 8 (by kernel_rfl) (by kernel_rfl) (by kernel_rfl) (by kernel_rfl)) ?_
  intro W base args ds gs before hval0 hW _ _
  have hval : ∀ (j : Nat) t v, Try.f5.params[j]? = some t → args[j]? = some v → Value.okWide Try.prog W .any base t v := hval0
  have hW2 := hW
  obtain ⟨p, q, hA0, hV, rfl, _, _⟩ := hW2
  have hA : DataW.TrodAll enc Try.prog W 0 (fun _ => true) true Try.f5.params.toList args.toList ds p := hA0
  rw [Try.params5] at hA hval
  obtain ⟨v0, d0, rfl, rfl, h0⟩ := trodAll_one hA
  obtain ⟨rfl, rfl⟩ := trodVars_none hV
  obtain ⟨A0, n, c, rfl, hC⟩ := open_code (hval 0 _ v0 rfl rfl) h0
  refine (FnPacketEnd_calls A0 n c W hC).mono fun e W' ⟨he, hb⟩ => ?_
  subst he
  exact ⟨_, rfl, law_post (f := Try.f5) (s := Rows.fnPacketEndSpec) 4 laid_out (by kernel_rfl) rfl (by kernel_rfl) Try.underlying4 hW rfl hb⟩
theorem FnPacketEnd_holds : Rows.FnPacketEndSaid :=
  OpenClaim.holds_of_wide 5 Try.f5 rfl rfl rfl rfl rfl rfl rfl ⟨rfl, rfl, rfl, rfl, rfl⟩ rfl rfl rfl rfl rfl (by kernel_rfl) Try.func5 (by kernel_rfl)
    (of_decide_eq_true (by kernel_rfl)) (by unfold Func.isWrapper; rw [if_neg (of_decide_eq_false (by kernel_rfl))]; exact ⟨rfl, rfl⟩)
    (fun os started H enc _ => FnPacketEnd_lifted os started H enc)

end Go.Proofs.Ytoeajbnjenceaaa
