/-
  FnPacketsFrom returns true for every code: what is left has no end. (A tied card: the library's variable errorType holds its handle.)
-/
import Derived.Test.YtoeajbnjenceaaaDoorFromsLaw
import Derived.Test.YtoeajbnjenceaaaDoorFromsDraw
import Derived.Test.YtoeajbnjenceaaaDoorDoor
set_option linter.unusedVariables false
set_option linter.unusedSimpArgs false
namespace Go.Proofs.YtoeajbnjenceaaaDoor
open Go.ChangeShapes Go.WideShapes Go.ChangeAt Go.RowKit

set_option maxRecDepth 4000 in
set_option maxHeartbeats 4000000 in
theorem FnPacketsFrom_small (A : Option Addr) (n c : Nat) (w : World) (hC : Code w A n c) (hE : ErrT w) : Calls Tryd.prog 8 #[.slice A n c] w fun e w' => e = .returned (.bool true) ∧ Below w.heap.size w w' := by
  have hn : n ≤ 1048576 := hC.elim fun _ h => h.2.2.1
  have hn2 : ¬ 1048576 < n := by omega
  go_enter Tryd.func8, Tryd.ntmps8
  go_wp2_with fail
  (with_reducible refine (DrawPacketsFrom_any _ _ _ _ hC).mono ?_); rintro e w1 ⟨A1, n1, c1, xs, rfl, hn1, hx1, hc1, hd1, hb1⟩; have hz1 := hb1.size; (try simp at hz1)
  have HX := Lib.hid hx1.len
  have hE1 := hE.below hb1
  go_wp2_with fail
  (with_reducible refine (impl_PacketsFrom A1 n1 c1 xs _ hx1 hc1 hd1 (by omega) hE1).mono ?_); rintro e w2 ⟨A2, n2, c2, s2, B2, m2, d2, rfl, ho2, hr2, hap2, hb2⟩; have hz2 := hb2.size; (try simp at hz2)
  have hx2 := hx1.below hb2
  go_wp2_with fail
  (with_reducible refine (spec_PacketsFrom A1 n1 c1 xs _ hx2 hc1 hd1 (by omega)).mono ?_); rintro e w3 ⟨A3, n3, c3, s3, B3, m3, d3, rfl, ho3, hr3, hap3, hb3⟩; have hz3 := hb3.size; (try simp at hz3)
  clear hap2 hap3
  obtain rfl : n2 = n3 := ho2.len.symm.trans ho3.len
  obtain rfl : m2 = m3 := by have h1 := hr2.1; have h2 := hr3.1; simp only [List.length_map, Nat.mul_one] at h1 h2; omega
  have hx3 := hx2.below hb3
  have g3 := ho2.below hb3
  have i3 := own_below hr2 hb3
  have hnl : n2 ≤ 450 := by have h1 := ho2.len; have h2 := fout_len xs; omega
  have hml : m2 ≤ 450 := by have h1 := hr2.1; have h2 := frest_len xs; simp only [List.length_map, Nat.mul_one] at h1; omega
  have htt : tot (fout xs) ≤ 1048576 := by have := fout_tot xs; omega
  have HT := Lib.hid htt
  have B3' : Below w.heap.size w w3 := b_trans (b_trans hb1 hb2) hb3
  have hE3 := hE.below B3'
  by_cases hok : fok xs = true
  case' neg =>
    have hf : fok xs = false := by simpa using hok
    rw [fbad_no hf]
    clear hok hf
    go_wp2_with fail
    (with_reducible refine (sameInts_any B2 B3 m2 m2 d2 d3 _ _ _ (Ints.of_own i3) (Ints.of_own hr3) (by omega) (by omega)).mono ?_); rintro e w4 ⟨rfl, hb4⟩; have hz4 := hb4.size; (try simp at hz4)
    have g4 := g3.below hb4
    have k4 := ho3.below hb4
    go_wp2_with fail
    (with_reducible refine (samePackets_same A2 A3 n2 c2 c3 s2 s3 (fout xs) _ g4.read k4.read (by omega) HT.out).mono ?_); rintro e w5 ⟨rfl, hb5⟩; have hz5 := hb5.size; (try simp at hz5)
    have g5 := g4.below hb5
    have k5 := k4.below hb5
    go_wp2_with fail
    (with_reducible refine (sameInts_any B2 B3 m2 m2 d2 d3 _ _ _ (Ints.of_own (own_below (own_below i3 hb4) hb5)) (Ints.of_own (own_below (own_below hr3 hb4) hb5)) (by omega) (by omega)).mono ?_); rintro e w6 ⟨rfl, hb6⟩; have hz6 := hb6.size; (try simp at hz6)
    go_wp2_with fail
    (with_reducible refine (samePackets_same A2 A3 n2 c2 c3 s2 s3 (fout xs) _ (g5.below hb6).read (k5.below hb6).read (by omega) HT.out).mono ?_); rintro e w7 ⟨rfl, hb7⟩; have hz7 := hb7.size; (try simp at hz7)
    go_wp2
    go_ret
    exact ⟨ret_bool (by simp), b_trans (b_trans (b_trans (b_trans B3' hb4) hb5) hb6) hb7⟩
  have HO := Lib.hid hok
  rw [fout_yes hok] at g3 ho3 ho2 HT
  rw [frest_yes hok] at i3 hr3 hr2
  rw [fbad_yes hok]
  have hinv := pst_inv xs
  rcases hps : pst xs with ⟨ps, bad, cur⟩
  rw [hps] at g3 ho3 i3 hr3 hinv ho2 hr2 HT
  simp only at g3 ho3 i3 hr3 ho2 hr2 HT
  have HP := Lib.hid hps
  have HI := Lib.hid hinv
  have hbn : bad ≤ 450 := by
    have h1 := hinv.2.2.1
    have h2 := (fok_parts hok).2
    have h3 := List.count_le_length (a := (192 : Int)) (l := xs)
    simp only at h1
    omega
  have HPL : Hid (ps.length = n2) := ho2.len
  have HCL : Hid (cur.length = m2) := by show _ = _; have h1 := hr2.1; simp only [List.length_map, Nat.mul_one] at h1; exact h1
  have hb0 : ¬ (bad : Int) < 0 := by omega
  clear hok hps hinv ho2 hr2 htt
  go_wp2_with fail
  (with_reducible refine (sameInts_any B2 B3 m2 m2 d2 d3 _ _ _ (Ints.of_own i3) (Ints.of_own hr3) (by omega) (by omega)).mono ?_); rintro e w4 ⟨rfl, hb4⟩; have hz4 := hb4.size; (try simp at hz4)
  have g4 := g3.below hb4
  have k4 := ho3.below hb4
  have i4 := own_below i3 hb4
  clear g3 i3
  go_wp2_with fail
  (with_reducible refine (samePackets_same A2 A3 n2 c2 c3 s2 s3 ps _ g4.read k4.read (by omega) HT.out).mono ?_); rintro e w5 ⟨rfl, hb5⟩; have hz5 := hb5.size; (try simp at hz5)
  have g5 := g4.below hb5
  have i5 := own_below i4 hb5
  have hx5 := (hx3.below hb4).below hb5
  have B5 : Below w.heap.size w w5 := b_trans (b_trans B3' hb4) hb5
  have hE5 := hE.below B5
  clear g4 k4 i4 hb1 hb2 hb3 hb4 hb5 B3' ho3 hr3 hx1 hx2 hx3 hE1 hE3
  go_wp2
  go_loop [10] (fun i => ∃ k : Nat, k ≤ n2 ∧ i = .int .i64 k) (fun i => n2 - (intOf i).toNat)
  case atStart => exact ⟨0, Nat.zero_le _, rfl⟩
  case round =>
    obtain ⟨k, hk, rfl⟩ := hrel
    by_cases hlt : k < n2
    · obtain ⟨b, o, A6, m6, c6, p, rfl, hb, _, ep, hc, hi, _, _⟩ := g5.read.at_ hlt
      have hp := HI.out.1 p (List.mem_of_getElem? ep)
      have hm6 : 1 ≤ m6 ∧ m6 ≤ 20 := by have := hi.len; omega
      have h1 : ¬ (m6 : Int) < 1 := by omega
      have h2 : ¬ 20 < (m6 : Int) := by omega
      clear ep hp hi
      go_wp2
      go_round
      case rel => exact ⟨k + 1, by omega, by go_num⟩
      case measure => simp [intOf]; omega
    · obtain rfl : k = n2 := by omega
      have hmn : m2 ≤ n1 := by
        obtain ⟨q, h1, _⟩ := HI.out.2.2.2
        have h2 := congrArg List.length h1
        rw [List.length_append] at h2
        have := HX.out
        have := HCL.out
        simp only at h2
        omega
      have HN : Hid (∀ x ∈ cur, x ≠ 192) := HI.out.2.1
      obtain ⟨K, rfl⟩ : ∃ K, n1 = K + m2 := ⟨n1 - m2, by omega⟩
      have HQ : Hid (xs.drop K = cur ∧ (K = 0 ∨ xs[K - 1]? = some 192)) := by
        obtain ⟨q, h1, h2⟩ := HI.out.2.2.2
        simp only at h1
        have hq : q.length = K := by
          have h3 := congrArg List.length h1
          rw [List.length_append] at h3
          have := HX.out
          have := HCL.out
          omega
        refine ⟨by rw [h1, ← hq, List.drop_left], ?_⟩
        rcases h2 with rfl | ⟨r, rfl⟩
        · exact .inl hq.symm
        · refine .inr ?_
          rw [List.length_append, List.length_singleton] at hq
          rw [h1, List.append_assoc, List.getElem?_append_right (by omega), show K - 1 - r.length = 0 from by omega]
          rfl
      clear HI g5 HP
      have i5i := Ints.of_own i5
      go_wp2
      go_loop [12] (fun i => ∃ k : Nat, k ≤ m2 ∧ i = .int .i64 k) (fun i => m2 - (intOf i).toNat)
      case atStart => exact ⟨0, Nat.zero_le _, rfl⟩
      case round =>
        obtain ⟨j, hj, rfl⟩ := hrel
        by_cases hlt2 : j < m2
        · obtain ⟨b, o, y, rfl, hb, ey, hc⟩ := i5i.at_ hlt2
          have hne : (y == 192) = false := by simpa using HN.out y (List.mem_of_getElem? ey)
          clear ey
          go_wp2
          go_round
          case rel => exact ⟨j + 1, by omega, by go_num⟩
          case measure => simp [intOf]; omega
        · obtain rfl : j = m2 := by omega
          have hK0 : (0 : Int) ≤ (K : Int) := by omega
          have hkc : (K : Int) ≤ (c1 : Int) := by omega
          have hkn : (K : Int) ≤ (K : Int) + (j : Int) := by omega
          have hnc : (K : Int) + (j : Int) ≤ (c1 : Int) := by omega
          unfold maxLen at hd1
          by_cases hK : K = 0
          · subst hK
            have HQ2 : Hid (xs = cur) := by show _ = _; have := HQ.out.1; simpa using this
            have HJ : Hid (xs.length = j) := by have := HX.out; show _ = _; omega
            clear HQ HX
            obtain rfl : xs = cur := HQ2.out
            rcases A1 with _ | ad
            · obtain rfl : j = 0 := by
                rcases Nat.eq_zero_or_pos j with h0 | h0
                · exact h0
                · obtain ⟨_, _, _, h, _⟩ := hx5.at_ (k := 0) (by omega)
                  cases h
              go_wp2_with fail
              (with_reducible refine (sameInts_any _ B2 0 0 _ d2 xs xs _ (by have h := HJ.out; rw [List.eq_nil_of_length_eq_zero h]; exact ints_void _ _) i5i (by omega) (by omega)).mono ?_); rintro e w9 ⟨rfl, hb9⟩; have hz9 := hb9.size; (try simp at hz9)
              go_wp2
              go_ret
              exact ⟨ret_bool (by simp), b_trans B5 hb9⟩
            · by_cases hc0 : c1 = 0
              · have hj0 : j = 0 := by omega
                subst hj0
                subst hc0
                go_wp2_with fail
                (with_reducible refine (sameInts_any _ B2 0 0 _ d2 xs xs _ (by have h := HJ.out; rw [List.eq_nil_of_length_eq_zero h]; exact ints_void _ _) i5i (by omega) (by omega)).mono ?_); rintro e w9 ⟨rfl, hb9⟩; have hz9 := hb9.size; (try simp at hz9)
                go_wp2
                go_ret
                exact ⟨ret_bool (by simp), b_trans B5 hb9⟩
              · have hc01 : ¬ 0 = c1 := fun e => hc0 e.symm
                have hx6 : Ints w5 (some ad) j xs := by have h := hx5; rwa [Nat.zero_add] at h
                go_wp2_with fail
                (with_reducible refine (sameInts_any _ B2 j j _ d2 xs xs _ hx6 i5i (by omega) (by omega)).mono ?_); rintro e w9 ⟨rfl, hb9⟩; have hz9 := hb9.size; (try simp at hz9)
                go_wp2
                go_ret
                exact ⟨ret_bool (by simp), b_trans B5 hb9⟩
          · obtain ⟨b, o, y, rfl, hb, ey, hc⟩ := hx5.at_ (k := K - 1) (by omega)
            have hy : y = 192 := by
              rcases HQ.out.2 with h | h
              · exact absurd h hK
              · rw [h] at ey; injection ey with ey; exact ey.symm
            subst hy
            have hxd := hx5.drop (k := K) (by omega)
            rw [HQ.out.1, Nat.add_sub_cancel_left] at hxd
            have hK1 : ¬ (K : Int) = 0 := by omega
            have hK2 : ((K : Int) == 0) = false := by simpa using hK
            obtain ⟨P, rfl⟩ : ∃ P, K = P + 1 := ⟨K - 1, by omega⟩
            rw [Nat.add_sub_cancel] at hc
            clear ey hK hK1
            by_cases hck : c1 = P + 1
            · obtain rfl : j = 0 := by omega
              have hck2 : ¬ c1 < P + 1 := by omega
              subst hck
              go_wp2_with fail
              (with_reducible refine (sameInts_any _ B2 0 0 _ d2 cur cur _ (by have h := HCL.out; rw [List.eq_nil_of_length_eq_zero h]; exact ints_void _ _) i5i (by omega) (by omega)).mono ?_); rintro e w9 ⟨rfl, hb9⟩; have hz9 := hb9.size; (try simp at hz9)
              have hc9 := (hb9.cell (p := ⟨b, o + P, none⟩) hb).trans hc
              go_wp2
              go_ret
              exact ⟨ret_bool (by simp), b_trans B5 hb9⟩
            · have hck2 : ¬ P + 1 = c1 := fun e => hck e.symm
              go_wp2_with fail
              (with_reducible refine (sameInts_any _ B2 j j _ d2 cur cur _ hxd i5i (by omega) (by omega)).mono ?_); rintro e w9 ⟨rfl, hb9⟩; have hz9 := hb9.size; (try simp at hz9)
              have hc9 := (hb9.cell (p := ⟨b, o + P, none⟩) hb).trans hc
              go_wp2
              go_ret
              exact ⟨ret_bool (by simp), b_trans B5 hb9⟩
set_option maxHeartbeats 1000000 in
theorem FnPacketsFrom_calls (A : Option Addr) (n c : Nat) (w : World) (hC : CodeIn w A n c) (hE : ErrT w) : Calls Tryd.prog 8 #[.slice A n c] w fun e w' => e = .returned (.bool true) ∧ Below w.heap.size w w' := by
  by_cases hn : n ≤ 1048576
  · exact FnPacketsFrom_small A n c w (hC.code hn) hE
  · have hl := hC.len
    have hn2 : (1048576 : Int) < n := by omega
    go_enter Tryd.func8, Tryd.ntmps8
    go_wp2
    go_ret
    exact ⟨rfl, b_refl _⟩
set_option maxRecDepth 100000 in
theorem FnPacketsFrom_lifted (os : Os) (started : os.Started) (H : Type) (enc : TypeId × Value → H) :
    ReturnsInHanded {} Tryd.checked os 8 .any (fun w args => (Rows.fnPacketsFromSpec.pre enc Tryd.prog Tryd.f8 [] false w args ∧ laidMetH Tryd.prog laidE w) ∧ sizedMet enc Tryd.prog Tryd.f8 (OpenSpec.ofChange Rows.fnPacketsFromSpec) false w args)
      (Rows.fnPacketsFromSpec.post enc Tryd.prog Tryd.f8 false true false false) := by
  refine returnsInHanded_of_change_and (C := Tryd.checked) (X := fun w _ => laidMetH Tryd.prog laidE w) (fun _ _ _ hh h => h.of_heap hh) own started (by kernel_rfl) Tryd.func8
    (ChangeSpec.witness_at (enc := enc) (C := Tryd.checked) (os := os) (X := fun w _ => laidMetH Tryd.prog laidE w) false (laidWorld os) #[.slice none 0 0] 8 rfl (by kernel_rfl) (by kernel_rfl) (by kernel_rfl) (by kernel_rfl) (by kernel_rfl) (laidWorld_met os _)) ?_
  intro W base args ds gs before hval0 hW _ _ hL _
  have hval : ∀ (j : Nat) t v, Tryd.f8.params[j]? = some t → args[j]? = some v → Value.okWide Tryd.prog W .any base t v := hval0
  have hW2 := hW
  obtain ⟨p, q, hA0, hV, rfl, _, _⟩ := hW2
  have hA : DataW.TrodAll enc Tryd.prog W 0 (fun _ => true) true Tryd.f8.params.toList args.toList ds p := hA0
  rw [Tryd.params8] at hA hval
  obtain ⟨v0, d0, rfl, rfl, h0⟩ := trodAll_one hA
  obtain ⟨rfl, rfl⟩ := trodVars_none hV
  obtain ⟨A0, n, c, rfl, hC⟩ := open_code (hval 0 _ v0 rfl rfl) h0
  have hE := handle_of_laid hL
  refine (FnPacketsFrom_calls A0 n c W hC hE).mono fun e W' ⟨he, hb⟩ => ?_
  subst he
  exact ⟨_, rfl, law_post (f := Tryd.f8) (s := Rows.fnPacketsFromSpec) 4 laid_out (by kernel_rfl) rfl (by kernel_rfl) Tryd.underlying4 hW rfl hb⟩
theorem FnPacketsFrom_row : Rows.FnPacketsFromSaid :=
  OpenClaim.holds_of_wide 8 Tryd.f8 rfl rfl rfl rfl rfl rfl rfl ⟨rfl, rfl, rfl, rfl, rfl⟩ rfl rfl rfl rfl rfl (by kernel_rfl) Tryd.func8 (by kernel_rfl)
    (of_decide_eq_true (by kernel_rfl)) (by unfold Func.isWrapper; rw [if_neg (of_decide_eq_false (by kernel_rfl))]; exact ⟨rfl, rfl⟩)
    (fun os started H enc _ => FnPacketsFrom_lifted os started H enc)
theorem FnPacketsFrom_holds : Rows.FnPacketsFromCardSaid :=
  Claim7.holds_tied_plain_at .later [] [.handle] true _ true
    FnPacketsFrom_row (fun _ h => by cases h) (by kernel_rfl) (fun _ h => by cases h) fnPacketsFrom_row_tie rfl ⟨rfl, rfl⟩ (by kernel_rfl) rfl
    (fun f fn hf hfn => by
      obtain rfl : f = 8 := Option.some.inj ((show Tryd.prog.funcNamed "loop.example/serialpair/laws.FnPacketsFrom" = some 8 by kernel_rfl).symm.trans hf) |>.symm
      obtain rfl : fn = Tryd.f8 := (Option.some.inj (Tryd.func8.symm.trans hfn)).symm
      exact ⟨by kernel_rfl, fun j t ht => by
        rw [Tryd.params8] at ht
        rcases j with _ | _ | j <;> simp at ht <;> subst ht <;> kernel_rfl⟩)
    (by kernel_rfl)

end Go.Proofs.YtoeajbnjenceaaaDoor
