/-
  FnPacketsJoin returns true for every code: packets are put one behind the other.
-/
import Derived.Test.YtoeajbnjenceaaaPacket
import Derived.Test.YtoeajbnjenceaaaPacketsLaw
import Derived.Test.YtoeajbnjenceaaaRow
set_option linter.unusedVariables false
set_option linter.unusedSimpArgs false
namespace Go.Proofs.Ytoeajbnjenceaaa
open Go.ChangeShapes Go.WideShapes Go.ChangeAt Go.RowKit

set_option maxHeartbeats 4000000 in
theorem FnPacketsJoin_small (A A9 : Option Addr) (n c n9 c9 : Nat) (w : World) (hC : Code w A n c) (hC9 : Code w A9 n9 c9) : Calls Try.prog 6 #[.slice A n c, .slice A9 n9 c9] w fun e w' => e = .returned (.bool true) ∧ Below w.heap.size w w' := by
  have hn : n ≤ 1048576 := hC.elim fun _ h => h.2.2.1
  have hn2 : ¬ 1048576 < n := by omega
  have hn9 : n9 ≤ 1048576 := hC9.elim fun _ h => h.2.2.1
  have hn92 : ¬ 1048576 < n9 := by omega
  go_enter Try.func6, Try.ntmps6
  go_wp2_with fail
  (with_reducible refine (DrawPacketsBytes_any _ _ _ _ hC).mono ?_); rintro e w1 ⟨A1, n1, c1, ss, xss, rfl, hn1, hx1, hf1, hc1, hd1, hb1⟩; have hz1 := hb1.size; (try simp at hz1)
  have HX := Lib.hid hx1.len
  have ht : tot xss ≤ 1048576 := by have h1 := hf1.tot; have h2 := HX.out; omega
  go_wp2_with fail
  (with_reducible refine (impl_PacketsBytes _ _ _ _ _ _ hx1 (by omega) ht).mono ?_); rintro e w2 ⟨A2, m2, c2, rfl, hm2, ho2, hc2, hd2, hb2⟩; have hz2 := hb2.size; (try simp at hz2)
  have HM2 := Lib.hid hm2
  clear hm2
  have hx2 := hx1.below hb2
  go_wp2_with fail
  (with_reducible refine (spec_PacketsBytes _ _ _ _ _ _ hx2 (by omega) ht).mono ?_); rintro e w3 ⟨A3, m3, c3, rfl, hm3, ho3, hc3, hd3, hb3⟩; have hz3 := hb3.size; (try simp at hz3)
  obtain rfl : m2 = m3 := HM2.out.trans hm3.symm
  clear hm3
  have hx3 := hx2.below hb3
  have g3 := own_below ho2 hb3
  have hml : m2 ≤ 410 := by
    have h1 := HM2.out
    have h2 := packsOut_len xss
    have h3 := HX.out
    omega
  have B3 : Below w.heap.size w w3 := (by repeat (first | (with_reducible exact b_refl _) | (with_reducible refine b_alloc ?_ _) | (with_reducible refine b_drew ?_) | (with_reducible refine b_drewN ?_ _) | (with_reducible refine b_set ?_ ?_ _) | (with_reducible refine b_trans ?_ (by assumption)) | (with_reducible refine b_only ?_ (by assumption) ?_) | omega | (focus (simp; done)) | (focus (simp; omega))))
  by_cases hok : packsOk xss = true
  case' neg =>
    have hf : packsOk xss = false := by simpa using hok
    rw [hf]
    rw [packsOut_no hf] at g3 ho3 HM2
    clear hok
    go_wp2_with fail
    (with_reducible refine (sameInts_any A2 A3 m2 m2 c2 c3 _ _ _ (Ints.of_own g3) (Ints.of_own ho3) (by omega) (by omega)).mono ?_); rintro e w4 ⟨rfl, hb4⟩; have hz4 := hb4.size; (try simp at hz4)
    go_wp2_with fail
    (with_reducible refine (sameInts_any A2 A3 m2 m2 c2 c3 _ _ _ (Ints.of_own (own_below g3 hb4)) (Ints.of_own (own_below ho3 hb4)) (by omega) (by omega)).mono ?_); rintro e w5 ⟨rfl, hb5⟩; have hz5 := hb5.size; (try simp at hz5)
    go_wp2
    go_ret
    exact ⟨ret_bool (by simp), b_trans (b_trans B3 hb4) hb5⟩
  rw [hok]
  rw [packsOut_yes hok] at g3 ho3 HM2
  go_wp2_with fail
  (with_reducible refine (sameInts_any A2 A3 m2 m2 c2 c3 _ _ _ (Ints.of_own g3) (Ints.of_own ho3) (by omega) (by omega)).mono ?_); rintro e w4 ⟨rfl, hb4⟩; have hz4 := hb4.size; (try simp at hz4)
  have g4 := own_below g3 hb4
  have hx4 := hx3.below hb4
  have B4 : Below w.heap.size w w4 := b_trans B3 hb4
  have HOK := Lib.hid hok
  have hpo := packsOk_parts hok
  have HM3 := Lib.hid HM2
  have hn10 : n1 ≤ 10 := by have := HX.out; omega
  obtain ⟨k, hk, ek⟩ : ∃ k : Nat, k ≤ n1 ∧ ((n9 : Int) % ((n1 : Int) + 1)) = (k : Int) := ⟨n9 % (n1 + 1), by have := Nat.mod_lt n9 (show 0 < n1 + 1 by omega); omega, by simp⟩
  have HT1 : Hid (packsOk (xss.take k) = true) := packsOk_take hok k
  have HT2 : Hid (packsOk (xss.drop k) = true) := packsOk_drop hok k
  have hl1 : (packedAll (xss.take k)).length ≤ 410 := by have h1 := packsOut_len (xss.take k); rwa [packsOut_yes HT1.out] at h1
  have hl2 : (packedAll (xss.drop k)).length ≤ 410 := by have h1 := packsOut_len (xss.drop k); rwa [packsOut_yes HT2.out] at h1
  have hxk := hx4.take hk
  have htk : tot (xss.take k) ≤ 1048576 := by have := tot_take_le xss k; omega
  have htd : tot (xss.drop k) ≤ 1048576 := by have := tot_drop_le xss k; omega
  have hnz : ¬ ((n1 : Int) + 1) = 0 := by omega
  have hki : (k : Int) ≤ (n1 : Int) := by omega
  have hkc : (k : Int) ≤ (c1 : Int) := by omega
  have hnc : (n1 : Int) ≤ (c1 : Int) := by omega
  unfold maxLen at hd1
  clear hok HM2 hpo
  have hx9s := Lib.hid hx4.slen
  have HC := Lib.hid (packedAll_split xss k)
  by_cases hn0 : n1 = 0
  · have hk0 : k = 0 := by omega
    subst hk0
    subst hn0
    rcases A1 with _ | ad
    · skip
      go_wp2_with fail
      (with_reducible refine (impl_PacketsBytes _ 0 _ (ss.take 0) (xss.take 0) _ hxk (by omega) htk).mono ?_); rintro e w5 ⟨A5, m5, c5, rfl, hm5, ho5, hc5, hd5, hb5⟩; have hz5 := hb5.size; (try simp at hz5)
      rw [packsOut_yes HT1.out] at hm5 ho5
      rw [HT1.out]
      have H5 := Lib.hid hm5
      have hm5l : m5 ≤ 410 := by omega
      clear hm5
      go_wp2_with fail
      (with_reducible refine (impl_PacketsBytes _ 0 _ (ss.drop 0) (xss.drop 0) _ (by rw [List.drop_eq_nil_of_le (by have := hx9s.out; omega), List.drop_eq_nil_of_le (by have := HX.out; omega)]; exact Lists.none_ _ _) (by omega) htd).mono ?_); rintro e w6 ⟨A6, m6, c6, rfl, hm6, ho6, hc6, hd6, hb6⟩; have hz6 := hb6.size; (try simp at hz6)
      rw [packsOut_yes HT2.out] at hm6 ho6
      rw [HT2.out]
      have H6 := Lib.hid hm6
      have hm6l : m6 ≤ 410 := by omega
      clear hm6
      have g6 := own_below (own_below g4 hb5) hb6
      have i5 := (Ints.of_own ho5).below hb6
      go_wp2_with (first | (at_builtin; refine at_app (.tmp 81) (.tmp 82) rfl ?_; go_must (refine wpList_appG (own_empty w6 w6.heap.size (Nat.le_refl _)) ((Ints.lift i5 (by repeat (first | (with_reducible exact i5) | (with_reducible refine Ints.drew ?_) | (with_reducible refine Ints.drewN ?_ _) | (with_reducible refine Ints.alloc ?_ _) | (with_reducible refine Ints.below ?_ (by assumption)))))) (by rfl) (.tmp 81) (.tmp 82) rfl rfl rfl (m5) (by first | omega | (simp; done) | (simp; omega)) (by first | omega | (simp; done) | (simp; omega)) (by first | omega | (simp; done) | (simp; omega)) ?_; intro A7 c7 w7 own7 ho7 hat7 hc7 hd7; (try simp only [List.nil_append] at own7); have hz7 := ho7.size; (try simp at hz7); have o67 := (ho6.alloc (.cells #[] 3)).kept ho7 (own_apart' ho6 (own_empty w6 w6.heap.size (Nat.le_refl _)) (Nat.le_refl _)); have g7 := (g6.alloc (.cells #[] 3)).kept ho7 (own_apart' g6 (own_empty w6 w6.heap.size (Nat.le_refl _)) (Nat.le_refl _)))) | (at_builtin; refine at_app (.tmp 83) (.tmp 84) rfl ?_; go_must (refine wpList_appG ((own_lift own7 (by repeat (first | (with_reducible exact own7) | (with_reducible refine World.ownsRow.drew ?_) | (with_reducible refine own_drewN ?_ _) | (with_reducible refine World.ownsRow.alloc ?_ _) | (with_reducible refine own_below ?_ (by assumption)))))) (Ints.of_own o67) (by rfl) (.tmp 83) (.tmp 84) rfl rfl rfl (m5 + m6) (by first | omega | (simp; done) | (simp; omega)) (by first | omega | (simp; done) | (simp; omega)) (by first | omega | (simp; done) | (simp; omega)) ?_; intro A8 c8 w8 own8 ho8 hat8 hc8 hd8; (try simp only [List.nil_append] at own8); have hz8 := ho8.size; (try simp at hz8); have g8 := g7.kept ho8 (own_apart' g6 own7 (Nat.le_refl _)))))
      (with_reducible refine (sameInts_any A8 A2 (m5 + m6) m2 c8 c2 _ _ _ (Ints.of_own own8) (Ints.of_own g8) (by omega) (by omega)).mono ?_); rintro e w9 ⟨rfl, hb9⟩
      have B8 : Below w.heap.size w w8 := b_own (b_own (b_alloc (b_trans (b_trans B4 hb5) hb6) _) ho7 (fun g hg => by simp [Value.ownBlock] at hg; have := (b_trans (b_trans B4 hb5) hb6).size; omega)) ho8 (fun g hg => by have := (own7.lt g hg).1; have := (b_trans (b_trans B4 hb5) hb6).size; omega)
      go_wp2
      go_ret
      exact ⟨ret_bool (by first | (simp [HC.out]; done) | (have h := HC.out; simp at h; simp [h]; done) | (have h := HC.out; simp at h ⊢; exact h)), b_trans B8 hb9⟩
    · skip
      go_wp2_with fail
      (with_reducible refine (impl_PacketsBytes _ 0 _ (ss.take 0) (xss.take 0) _ hxk (by omega) htk).mono ?_); rintro e w5 ⟨A5, m5, c5, rfl, hm5, ho5, hc5, hd5, hb5⟩; have hz5 := hb5.size; (try simp at hz5)
      rw [packsOut_yes HT1.out] at hm5 ho5
      rw [HT1.out]
      have H5 := Lib.hid hm5
      have hm5l : m5 ≤ 410 := by omega
      clear hm5
      go_wp2_with fail
      (with_reducible refine (impl_PacketsBytes _ 0 _ (ss.drop 0) (xss.drop 0) _ (by rw [List.drop_eq_nil_of_le (by have := hx9s.out; omega), List.drop_eq_nil_of_le (by have := HX.out; omega)]; exact Lists.none_ _ _) (by omega) htd).mono ?_); rintro e w6 ⟨A6, m6, c6, rfl, hm6, ho6, hc6, hd6, hb6⟩; have hz6 := hb6.size; (try simp at hz6)
      rw [packsOut_yes HT2.out] at hm6 ho6
      rw [HT2.out]
      have H6 := Lib.hid hm6
      have hm6l : m6 ≤ 410 := by omega
      clear hm6
      have g6 := own_below (own_below g4 hb5) hb6
      have i5 := (Ints.of_own ho5).below hb6
      go_wp2_with (first | (at_builtin; refine at_app (.tmp 81) (.tmp 82) rfl ?_; go_must (refine wpList_appG (own_empty w6 w6.heap.size (Nat.le_refl _)) ((Ints.lift i5 (by repeat (first | (with_reducible exact i5) | (with_reducible refine Ints.drew ?_) | (with_reducible refine Ints.drewN ?_ _) | (with_reducible refine Ints.alloc ?_ _) | (with_reducible refine Ints.below ?_ (by assumption)))))) (by rfl) (.tmp 81) (.tmp 82) rfl rfl rfl (m5) (by first | omega | (simp; done) | (simp; omega)) (by first | omega | (simp; done) | (simp; omega)) (by first | omega | (simp; done) | (simp; omega)) ?_; intro A7 c7 w7 own7 ho7 hat7 hc7 hd7; (try simp only [List.nil_append] at own7); have hz7 := ho7.size; (try simp at hz7); have o67 := (ho6.alloc (.cells #[] 3)).kept ho7 (own_apart' ho6 (own_empty w6 w6.heap.size (Nat.le_refl _)) (Nat.le_refl _)); have g7 := (g6.alloc (.cells #[] 3)).kept ho7 (own_apart' g6 (own_empty w6 w6.heap.size (Nat.le_refl _)) (Nat.le_refl _)))) | (at_builtin; refine at_app (.tmp 83) (.tmp 84) rfl ?_; go_must (refine wpList_appG ((own_lift own7 (by repeat (first | (with_reducible exact own7) | (with_reducible refine World.ownsRow.drew ?_) | (with_reducible refine own_drewN ?_ _) | (with_reducible refine World.ownsRow.alloc ?_ _) | (with_reducible refine own_below ?_ (by assumption)))))) (Ints.of_own o67) (by rfl) (.tmp 83) (.tmp 84) rfl rfl rfl (m5 + m6) (by first | omega | (simp; done) | (simp; omega)) (by first | omega | (simp; done) | (simp; omega)) (by first | omega | (simp; done) | (simp; omega)) ?_; intro A8 c8 w8 own8 ho8 hat8 hc8 hd8; (try simp only [List.nil_append] at own8); have hz8 := ho8.size; (try simp at hz8); have g8 := g7.kept ho8 (own_apart' g6 own7 (Nat.le_refl _)))))
      (with_reducible refine (sameInts_any A8 A2 (m5 + m6) m2 c8 c2 _ _ _ (Ints.of_own own8) (Ints.of_own g8) (by omega) (by omega)).mono ?_); rintro e w9 ⟨rfl, hb9⟩
      have B8 : Below w.heap.size w w8 := b_own (b_own (b_alloc (b_trans (b_trans B4 hb5) hb6) _) ho7 (fun g hg => by simp [Value.ownBlock] at hg; have := (b_trans (b_trans B4 hb5) hb6).size; omega)) ho8 (fun g hg => by have := (own7.lt g hg).1; have := (b_trans (b_trans B4 hb5) hb6).size; omega)
      go_wp2
      go_ret
      exact ⟨ret_bool (by first | (simp [HC.out]; done) | (have h := HC.out; simp at h; simp [h]; done) | (have h := HC.out; simp at h ⊢; exact h)), b_trans B8 hb9⟩
  · obtain ⟨b, o, B0, p0, q0, ys0, rfl, _, _, _, _, _, _, _⟩ := hx4.at_ (k := 0) (by omega)
    by_cases hck : c1 = k
    · have hnk : n1 = k := by omega
      have hck2 : c1 = n1 := by omega
      subst hck2
      subst hnk
      go_wp2_with fail
      (with_reducible refine (impl_PacketsBytes _ c1 _ (ss.take c1) (xss.take c1) _ hxk (by omega) htk).mono ?_); rintro e w5 ⟨A5, m5, c5, rfl, hm5, ho5, hc5, hd5, hb5⟩; have hz5 := hb5.size; (try simp at hz5)
      rw [packsOut_yes HT1.out] at hm5 ho5
      rw [HT1.out]
      have H5 := Lib.hid hm5
      have hm5l : m5 ≤ 410 := by omega
      clear hm5
      go_wp2_with fail
      (with_reducible refine (impl_PacketsBytes _ 0 _ (ss.drop c1) (xss.drop c1) _ (by rw [List.drop_eq_nil_of_le (by have := hx9s.out; omega), List.drop_eq_nil_of_le (by have := HX.out; omega)]; exact Lists.none_ _ _) (by omega) htd).mono ?_); rintro e w6 ⟨A6, m6, c6, rfl, hm6, ho6, hc6, hd6, hb6⟩; have hz6 := hb6.size; (try simp at hz6)
      rw [packsOut_yes HT2.out] at hm6 ho6
      rw [HT2.out]
      have H6 := Lib.hid hm6
      have hm6l : m6 ≤ 410 := by omega
      clear hm6
      have g6 := own_below (own_below g4 hb5) hb6
      have i5 := (Ints.of_own ho5).below hb6
      go_wp2_with (first | (at_builtin; refine at_app (.tmp 81) (.tmp 82) rfl ?_; go_must (refine wpList_appG (own_empty w6 w6.heap.size (Nat.le_refl _)) ((Ints.lift i5 (by repeat (first | (with_reducible exact i5) | (with_reducible refine Ints.drew ?_) | (with_reducible refine Ints.drewN ?_ _) | (with_reducible refine Ints.alloc ?_ _) | (with_reducible refine Ints.below ?_ (by assumption)))))) (by rfl) (.tmp 81) (.tmp 82) rfl rfl rfl (m5) (by first | omega | (simp; done) | (simp; omega)) (by first | omega | (simp; done) | (simp; omega)) (by first | omega | (simp; done) | (simp; omega)) ?_; intro A7 c7 w7 own7 ho7 hat7 hc7 hd7; (try simp only [List.nil_append] at own7); have hz7 := ho7.size; (try simp at hz7); have o67 := (ho6.alloc (.cells #[] 3)).kept ho7 (own_apart' ho6 (own_empty w6 w6.heap.size (Nat.le_refl _)) (Nat.le_refl _)); have g7 := (g6.alloc (.cells #[] 3)).kept ho7 (own_apart' g6 (own_empty w6 w6.heap.size (Nat.le_refl _)) (Nat.le_refl _)))) | (at_builtin; refine at_app (.tmp 83) (.tmp 84) rfl ?_; go_must (refine wpList_appG ((own_lift own7 (by repeat (first | (with_reducible exact own7) | (with_reducible refine World.ownsRow.drew ?_) | (with_reducible refine own_drewN ?_ _) | (with_reducible refine World.ownsRow.alloc ?_ _) | (with_reducible refine own_below ?_ (by assumption)))))) (Ints.of_own o67) (by rfl) (.tmp 83) (.tmp 84) rfl rfl rfl (m5 + m6) (by first | omega | (simp; done) | (simp; omega)) (by first | omega | (simp; done) | (simp; omega)) (by first | omega | (simp; done) | (simp; omega)) ?_; intro A8 c8 w8 own8 ho8 hat8 hc8 hd8; (try simp only [List.nil_append] at own8); have hz8 := ho8.size; (try simp at hz8); have g8 := g7.kept ho8 (own_apart' g6 own7 (Nat.le_refl _)))))
      (with_reducible refine (sameInts_any A8 A2 (m5 + m6) m2 c8 c2 _ _ _ (Ints.of_own own8) (Ints.of_own g8) (by omega) (by omega)).mono ?_); rintro e w9 ⟨rfl, hb9⟩
      have B8 : Below w.heap.size w w8 := b_own (b_own (b_alloc (b_trans (b_trans B4 hb5) hb6) _) ho7 (fun g hg => by simp [Value.ownBlock] at hg; have := (b_trans (b_trans B4 hb5) hb6).size; omega)) ho8 (fun g hg => by have := (own7.lt g hg).1; have := (b_trans (b_trans B4 hb5) hb6).size; omega)
      go_wp2
      go_ret
      exact ⟨ret_bool (by first | (simp [HC.out]; done) | (have h := HC.out; simp at h; simp [h]; done) | (have h := HC.out; simp at h ⊢; exact h)), b_trans B8 hb9⟩
    · have hck2 : ¬ k = c1 := fun e => hck e.symm
      have hxd := hx4.drop hk
      go_wp2_with fail
      (with_reducible refine (impl_PacketsBytes _ k _ (ss.take k) (xss.take k) _ hxk (by omega) htk).mono ?_); rintro e w5 ⟨A5, m5, c5, rfl, hm5, ho5, hc5, hd5, hb5⟩; have hz5 := hb5.size; (try simp at hz5)
      rw [packsOut_yes HT1.out] at hm5 ho5
      rw [HT1.out]
      have H5 := Lib.hid hm5
      have hm5l : m5 ≤ 410 := by omega
      clear hm5
      go_wp2_with fail
      (with_reducible refine (impl_PacketsBytes _ (n1 - k) _ (ss.drop k) (xss.drop k) _ (hxd.below hb5) (by omega) htd).mono ?_); rintro e w6 ⟨A6, m6, c6, rfl, hm6, ho6, hc6, hd6, hb6⟩; have hz6 := hb6.size; (try simp at hz6)
      rw [packsOut_yes HT2.out] at hm6 ho6
      rw [HT2.out]
      have H6 := Lib.hid hm6
      have hm6l : m6 ≤ 410 := by omega
      clear hm6
      have g6 := own_below (own_below g4 hb5) hb6
      have i5 := (Ints.of_own ho5).below hb6
      go_wp2_with (first | (at_builtin; refine at_app (.tmp 81) (.tmp 82) rfl ?_; go_must (refine wpList_appG (own_empty w6 w6.heap.size (Nat.le_refl _)) ((Ints.lift i5 (by repeat (first | (with_reducible exact i5) | (with_reducible refine Ints.drew ?_) | (with_reducible refine Ints.drewN ?_ _) | (with_reducible refine Ints.alloc ?_ _) | (with_reducible refine Ints.below ?_ (by assumption)))))) (by rfl) (.tmp 81) (.tmp 82) rfl rfl rfl (m5) (by first | omega | (simp; done) | (simp; omega)) (by first | omega | (simp; done) | (simp; omega)) (by first | omega | (simp; done) | (simp; omega)) ?_; intro A7 c7 w7 own7 ho7 hat7 hc7 hd7; (try simp only [List.nil_append] at own7); have hz7 := ho7.size; (try simp at hz7); have o67 := (ho6.alloc (.cells #[] 3)).kept ho7 (own_apart' ho6 (own_empty w6 w6.heap.size (Nat.le_refl _)) (Nat.le_refl _)); have g7 := (g6.alloc (.cells #[] 3)).kept ho7 (own_apart' g6 (own_empty w6 w6.heap.size (Nat.le_refl _)) (Nat.le_refl _)))) | (at_builtin; refine at_app (.tmp 83) (.tmp 84) rfl ?_; go_must (refine wpList_appG ((own_lift own7 (by repeat (first | (with_reducible exact own7) | (with_reducible refine World.ownsRow.drew ?_) | (with_reducible refine own_drewN ?_ _) | (with_reducible refine World.ownsRow.alloc ?_ _) | (with_reducible refine own_below ?_ (by assumption)))))) (Ints.of_own o67) (by rfl) (.tmp 83) (.tmp 84) rfl rfl rfl (m5 + m6) (by first | omega | (simp; done) | (simp; omega)) (by first | omega | (simp; done) | (simp; omega)) (by first | omega | (simp; done) | (simp; omega)) ?_; intro A8 c8 w8 own8 ho8 hat8 hc8 hd8; (try simp only [List.nil_append] at own8); have hz8 := ho8.size; (try simp at hz8); have g8 := g7.kept ho8 (own_apart' g6 own7 (Nat.le_refl _)))))
      (with_reducible refine (sameInts_any A8 A2 (m5 + m6) m2 c8 c2 _ _ _ (Ints.of_own own8) (Ints.of_own g8) (by omega) (by omega)).mono ?_); rintro e w9 ⟨rfl, hb9⟩
      have B8 : Below w.heap.size w w8 := b_own (b_own (b_alloc (b_trans (b_trans B4 hb5) hb6) _) ho7 (fun g hg => by simp [Value.ownBlock] at hg; have := (b_trans (b_trans B4 hb5) hb6).size; omega)) ho8 (fun g hg => by have := (own7.lt g hg).1; have := (b_trans (b_trans B4 hb5) hb6).size; omega)
      go_wp2
      go_ret
      exact ⟨ret_bool (by first | (simp [HC.out]; done) | (have h := HC.out; simp at h; simp [h]; done) | (have h := HC.out; simp at h ⊢; exact h)), b_trans B8 hb9⟩
set_option maxHeartbeats 1000000 in
theorem FnPacketsJoin_calls (A A2 : Option Addr) (n c n2 c2 : Nat) (w : World) (hC : CodeIn w A n c) (hC2 : CodeIn w A2 n2 c2) : Calls Try.prog 6 #[.slice A n c, .slice A2 n2 c2] w fun e w' => e = .returned (.bool true) ∧ Below w.heap.size w w' := by
  have hl := hC.len
  have hl2 := hC2.len
  by_cases hn : n ≤ 1048576
  · by_cases hn2 : n2 ≤ 1048576
    · exact FnPacketsJoin_small A A2 n c n2 c2 w (hC.code hn) (hC2.code hn2)
    · have hm : ¬ (1048576 : Int) < n := by omega
      have hm2 : (1048576 : Int) < n2 := by omega
      go_enter Try.func6, Try.ntmps6
      go_wp2
      go_ret
      exact ⟨rfl, b_refl _⟩
  · have hm : (1048576 : Int) < n := by omega
    go_enter Try.func6, Try.ntmps6
    go_wp2
    go_ret
    exact ⟨rfl, b_refl _⟩
set_option maxRecDepth 100000 in
theorem FnPacketsJoin_lifted (os : Os) (started : os.Started) (H : Type) (enc : TypeId × Value → H) :
    ReturnsInHanded {} Try.checked os 6 .any (Rows.fnPacketsJoinSpec.pre6 enc Try.prog Try.f6 Rows.fnPacketsJoinRow.domain false) (Rows.fnPacketsJoinSpec.post enc Try.prog Try.f6 false true false false) := by
  refine returnsInHanded_of_change (C := Try.checked) own started (by kernel_rfl) Try.func6
    (ChangeSpec.witness6 (enc := enc) (C := Try.checked) false ⟨#[], #[.slice none 0 0, .slice none 0 0], []⟩ 8 (by kernel_rfl) (by kernel_rfl) (by kernel_rfl) (by kernel_rfl)) ?_
  intro W base args ds gs before hval0 hW _ _
  have hval : ∀ (j : Nat) t v, Try.f6.params[j]? = some t → args[j]? = some v → Value.okWide Try.prog W .any base t v := hval0
  have hW2 := hW
  obtain ⟨p, q, hA0, hV, rfl, _, _⟩ := hW2
  have hA : DataW.TrodAll enc Try.prog W 0 (fun _ => true) true Try.f6.params.toList args.toList ds p := hA0
  rw [Try.params6] at hA hval
  obtain ⟨v0, v1, d0, d1, p0, p1, rfl, rfl, rfl, h0, h1⟩ := trodAll_two hA
  obtain ⟨rfl, rfl⟩ := trodVars_none hV
  obtain ⟨A0, n, c, rfl, hC⟩ := open_code (hval 0 _ v0 rfl rfl) h0
  obtain ⟨A2, n2, c2, rfl, hC2⟩ := open_code (hval 1 _ v1 rfl rfl) h1
  refine (FnPacketsJoin_calls A0 A2 n c n2 c2 W hC hC2).mono fun e W' ⟨he, hb⟩ => ?_
  subst he
  exact ⟨_, rfl, law_post (f := Try.f6) (s := Rows.fnPacketsJoinSpec) 4 laid_out (by kernel_rfl) rfl (by kernel_rfl) Try.underlying4 hW rfl hb⟩
theorem FnPacketsJoin_holds : Rows.FnPacketsJoinSaid :=
  OpenClaim.holds_of_wide 6 Try.f6 rfl rfl rfl rfl rfl rfl rfl ⟨rfl, rfl, rfl, rfl, rfl⟩ rfl rfl rfl rfl rfl (by kernel_rfl) Try.func6 (by kernel_rfl)
    (of_decide_eq_true (by kernel_rfl)) (by unfold Func.isWrapper; rw [if_neg (of_decide_eq_false (by kernel_rfl))]; exact ⟨rfl, rfl⟩)
    (fun os started H enc _ => FnPacketsJoin_lifted os started H enc)

end Go.Proofs.Ytoeajbnjenceaaa
