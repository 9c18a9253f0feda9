/-
  FnPacketsFromParts returns true for every code: bytes may come in parts. (A tied card: the library's variable errorType holds its handle.)
-/
import Derived.Test.YtoeajbnjenceaaaDoorFromsLaw
import Derived.Test.YtoeajbnjenceaaaDoorFromsDraw
import Derived.Test.YtoeajbnjenceaaaDoorDoor
set_option linter.unusedVariables false
set_option linter.unusedSimpArgs false
namespace Go.Proofs.YtoeajbnjenceaaaDoor
open Go.ChangeShapes Go.WideShapes Go.ChangeAt Go.RowKit

theorem fok_take {xs : List Int} (h : fok xs = true) (k : Nat) : fok (xs.take k) = true := by
  obtain ⟨h1, h2⟩ := fok_parts h
  exact fok_mk (bytesOk_take h1 k) (by simp; omega)
theorem fok_parts2 {xs : List Int} {k x : Nat} {pa : List (List Int)} {left : List Int} (h : fok xs = true) (hA : pst (xs.take k) = (pa, x, left)) : fok (left ++ xs.drop k) = true := by
  obtain ⟨h1, h2⟩ := fok_parts h
  have hi := pst_inv (xs.take k)
  rw [hA] at hi
  obtain ⟨_, _, _, q, h3, _⟩ := hi
  simp only at h3
  have h4 : bytesOk left = true := by
    have h5 := bytesOk_take h1 k
    rw [h3, bytesOk_append, Bool.and_eq_true] at h5
    exact h5.2
  have h6 := congrArg List.length h3
  rw [List.length_append, List.length_take] at h6
  refine fok_mk (by rw [bytesOk_append, h4, bytesOk_drop h1 k]; rfl) (by rw [List.length_append, List.length_drop]; omega)
theorem pst_parts {xs : List Int} {k x y : Nat} {pa pb : List (List Int)} {left cur2 : List Int} (hA : pst (xs.take k) = (pa, x, left)) (hB : pst (left ++ xs.drop k) = (pb, y, cur2)) : pst xs = (pa ++ pb, x + y, cur2) := by
  have hi := (pst_inv (xs.take k)).2.1
  rw [hA] at hi
  unfold pst at hA hB ⊢
  rw [List.foldl_append, fold_plain left _ _ _ hi, List.nil_append] at hB
  rw [← List.take_append_drop k xs, List.foldl_append, hA, fold_shift, hB]
/-- Two lists of lists, one behind the other. -/
theorem Lists.append {w : World} {base n m k : Nat} {A B C : Option Addr} {c : Nat} {ss ts : List Sl} {xss yss : List (List Int)} (h : w.ownsRow base 22 1 (.slice A k c) k ((ss ++ ts).map slv)) (hx : Lists w B n ss xss) (hy : Lists w C m ts yss) (hk : n + m = k) : Lists w A k (ss ++ ts) (xss ++ yss) := by
  subst hk
  refine ⟨Reads.of_own h, by rw [List.length_append, hx.len, hy.len], fun i s xs h1 h2 => ?_⟩
  have hs := hx.slen
  have hl := hx.len
  by_cases hi : i < n
  · rw [List.getElem?_append_left (by omega)] at h1 h2
    exact hx.2.2 i s xs h1 h2
  · rw [List.getElem?_append_right (by omega)] at h1 h2
    rw [hs] at h1
    rw [hl] at h2
    exact hy.2.2 _ s xs h1 h2
set_option maxRecDepth 4000 in
set_option maxHeartbeats 4000000 in
theorem FnPacketsFromParts_small (A A9 : Option Addr) (n c n9 c9 : Nat) (w : World) (hC : Code w A n c) (hC9 : Code w A9 n9 c9) (hE : ErrT w) : Calls Tryd.prog 9 #[.slice A n c, .slice A9 n9 c9] w fun e w' => e = .returned (.bool true) ∧ Below w.heap.size w w' := by
  have hn : n ≤ 1048576 := hC.elim fun _ h => h.2.2.1
  have hn2 : ¬ 1048576 < n := by omega
  have hn9 : n9 ≤ 1048576 := hC9.elim fun _ h => h.2.2.1
  have hn92 : ¬ 1048576 < n9 := by omega
  go_enter Tryd.func9, Tryd.ntmps9
  go_wp2_with fail
  (with_reducible refine (DrawPacketsFrom_any _ _ _ _ hC).mono ?_); rintro e w1 ⟨A1, n1, c1, xs, rfl, hn1, hx1, hc1, hd1, hb1⟩; have hz1 := hb1.size; (try simp at hz1)
  have HX := Lib.hid hx1.len
  have hE1 := hE.below hb1
  go_wp2_with fail
  (with_reducible refine (impl_PacketsFrom A1 n1 c1 xs _ hx1 hc1 hd1 (by omega) hE1).mono ?_); rintro e w2 ⟨A2, n2, c2, s2, B2, m2, d2, rfl, ho2, hr2, hap2, hb2⟩; have hz2 := hb2.size; (try simp at hz2)
  have hx2 := hx1.below hb2
  go_wp2_with fail
  (with_reducible refine (spec_PacketsFrom A1 n1 c1 xs _ hx2 hc1 hd1 (by omega)).mono ?_); rintro e w3 ⟨A3, n3, c3, s3, B3, m3, d3, rfl, ho3, hr3, hap3, hb3⟩; have hz3 := hb3.size; (try simp at hz3)
  clear hap2 hap3
  obtain rfl : n2 = n3 := ho2.len.symm.trans ho3.len
  obtain rfl : m2 = m3 := by have h1 := hr2.1; have h2 := hr3.1; simp only [List.length_map, Nat.mul_one] at h1 h2; omega
  have hx3 := hx2.below hb3
  have g3 := ho2.below hb3
  have i3 := own_below hr2 hb3
  have hnl : n2 ≤ 450 := by have h1 := ho2.len; have h2 := fout_len xs; omega
  have hml : m2 ≤ 450 := by have h1 := hr2.1; have h2 := frest_len xs; simp only [List.length_map, Nat.mul_one] at h1; omega
  have htt : tot (fout xs) ≤ 1048576 := by have := fout_tot xs; omega
  have HT := Lib.hid htt
  have B3' : Below w.heap.size w w3 := b_trans (b_trans hb1 hb2) hb3
  have hE3 := hE.below B3'
  by_cases hok : fok xs = true
  case' neg =>
    have hf : fok xs = false := by simpa using hok
    rw [fbad_no hf]
    clear hok hf
    go_wp2_with fail
    (with_reducible refine (sameInts_any B2 B3 m2 m2 d2 d3 _ _ _ (Ints.of_own i3) (Ints.of_own hr3) (by omega) (by omega)).mono ?_); rintro e w4 ⟨rfl, hb4⟩; have hz4 := hb4.size; (try simp at hz4)
    have g4 := g3.below hb4
    have k4 := ho3.below hb4
    go_wp2_with fail
    (with_reducible refine (samePackets_same A2 A3 n2 c2 c3 s2 s3 (fout xs) _ g4.read k4.read (by omega) HT.out).mono ?_); rintro e w5 ⟨rfl, hb5⟩; have hz5 := hb5.size; (try simp at hz5)
    have g5 := g4.below hb5
    have k5 := k4.below hb5
    go_wp2_with fail
    (with_reducible refine (sameInts_any B2 B3 m2 m2 d2 d3 _ _ _ (Ints.of_own (own_below (own_below i3 hb4) hb5)) (Ints.of_own (own_below (own_below hr3 hb4) hb5)) (by omega) (by omega)).mono ?_); rintro e w6 ⟨rfl, hb6⟩; have hz6 := hb6.size; (try simp at hz6)
    go_wp2_with fail
    (with_reducible refine (samePackets_same A2 A3 n2 c2 c3 s2 s3 (fout xs) _ (g5.below hb6).read (k5.below hb6).read (by omega) HT.out).mono ?_); rintro e w7 ⟨rfl, hb7⟩; have hz7 := hb7.size; (try simp at hz7)
    go_wp2
    go_ret
    exact ⟨ret_bool (by simp), b_trans (b_trans (b_trans (b_trans B3' hb4) hb5) hb6) hb7⟩
  have HO := Lib.hid hok
  rw [fout_yes hok] at g3 ho3 ho2 HT
  rw [frest_yes hok] at i3 hr3 hr2
  rw [fbad_yes hok]
  have hinv := pst_inv xs
  rcases hps : pst xs with ⟨ps, bad, cur⟩
  rw [hps] at g3 ho3 i3 hr3 hinv ho2 hr2 HT
  simp only at g3 ho3 i3 hr3 ho2 hr2 HT
  have HP := Lib.hid hps
  have HI := Lib.hid hinv
  have hbn : bad ≤ 450 := by
    have h1 := hinv.2.2.1
    have h2 := (fok_parts hok).2
    have h3 := List.count_le_length (a := (192 : Int)) (l := xs)
    simp only at h1
    omega
  have HPL : Hid (ps.length = n2) := ho2.len
  have HCL : Hid (cur.length = m2) := by show _ = _; have h1 := hr2.1; simp only [List.length_map, Nat.mul_one] at h1; exact h1
  have hb0 : ¬ (bad : Int) < 0 := by omega
  clear hok hps hinv ho2 hr2 htt
  go_wp2_with fail
  (with_reducible refine (sameInts_any B2 B3 m2 m2 d2 d3 _ _ _ (Ints.of_own i3) (Ints.of_own hr3) (by omega) (by omega)).mono ?_); rintro e w4 ⟨rfl, hb4⟩; have hz4 := hb4.size; (try simp at hz4)
  have g4 := g3.below hb4
  have k4 := ho3.below hb4
  have i4 := own_below i3 hb4
  clear g3 i3
  go_wp2_with fail
  (with_reducible refine (samePackets_same A2 A3 n2 c2 c3 s2 s3 ps _ g4.read k4.read (by omega) HT.out).mono ?_); rintro e w5 ⟨rfl, hb5⟩; have hz5 := hb5.size; (try simp at hz5)
  have g5 := g4.below hb5
  have i5 := own_below i4 hb5
  have hx5 := (hx3.below hb4).below hb5
  have B5 : Below w.heap.size w w5 := b_trans (b_trans B3' hb4) hb5
  have hE5 := hE.below B5
  clear g4 k4 i4 hb1 hb2 hb3 hb4 hb5 B3' ho3 hr3 hx1 hx2 hx3 hE1 hE3
  obtain ⟨k, hk, ek⟩ : ∃ k : Nat, k ≤ n1 ∧ ((n9 : Int) % ((n1 : Int) + 1)) = (k : Int) := ⟨n9 % (n1 + 1), by have := Nat.mod_lt n9 (show 0 < n1 + 1 by omega); omega, by simp⟩
  have HK1 : Hid (fok (xs.take k) = true) := fok_take HO.out k
  obtain ⟨pa, x, left, HA⟩ : ∃ pa x left, Hid (pst (xs.take k) = (pa, x, left)) := ⟨_, _, _, rfl⟩
  obtain ⟨zs, HZ⟩ : ∃ zs, Hid (xs.drop k = zs) := ⟨_, rfl⟩
  have HK2 : Hid (fok (left ++ xs.drop k) = true) := fok_parts2 HO.out HA.out
  obtain ⟨pb, y, cur2, HB⟩ : ∃ pb y cur2, Hid (pst (left ++ xs.drop k) = (pb, y, cur2)) := ⟨_, _, _, rfl⟩
  have HAB : Hid (ps = pa ++ pb ∧ bad = x + y ∧ cur = cur2) := by
    have h1 := pst_parts HA.out HB.out
    rw [HP.out] at h1
    injection h1 with h1 h2
    injection h2 with h2 h3
    exact ⟨h1, h2, h3⟩
  have HL1 : Hid (left.length ≤ 450) := by
    have h1 := frest_len (xs.take k)
    rw [frest_yes HK1.out, HA.out] at h1
    exact h1
  have HN1 : Hid (pa.length ≤ 450 ∧ pb.length ≤ 450 ∧ x ≤ 450 ∧ y ≤ 450) := by
    have h1 := fout_len (xs.take k)
    have h2 := fout_len (left ++ xs.drop k)
    have h3 := (fbad_range (xs.take k)).2
    have h4 := (fbad_range (left ++ xs.drop k)).2
    rw [fout_yes HK1.out, HA.out] at h1
    rw [fout_yes HK2.out, HB.out] at h2
    rw [fbad_yes HK1.out, HA.out] at h3
    rw [fbad_yes HK2.out, HB.out] at h4
    simp only at h1 h2 h3 h4
    exact ⟨h1, h2, by omega, by omega⟩
  have hx9 : x ≤ 450 ∧ y ≤ 450 := HN1.out.2.2
  have hxy : (x : Int) + (y : Int) = (bad : Int) := by have := HAB.out.2.1; omega
  rw [HZ.out] at HK2 HB
  have hnz : ¬ ((n1 : Int) + 1) = 0 := by omega
  have hki : (k : Int) ≤ (n1 : Int) := by omega
  have hkc : (k : Int) ≤ (c1 : Int) := by omega
  have hnc : (n1 : Int) ≤ (c1 : Int) := by omega
  have hd9 := hd1
  unfold maxLen at hd1
  clear HI HO
  by_cases hn0 : n1 = 0
  · have hk0 : k = 0 := by omega
    subst hk0
    subst hn0
    have HV : Hid (xs = []) := List.eq_nil_of_length_eq_zero HX.out
    have HV1 : Hid (xs.take 0 = []) := rfl
    have HV2 : Hid (zs = []) := HZ.out.symm.trans HV.out
    rcases A1 with _ | ad
    · skip
      go_wp2_with fail
      (with_reducible refine (impl_PacketsFrom _ 0 c1 (xs.take 0) _ (by rw [HV1.out]; exact ints_void _ _) (by omega) hd9 (by omega) hE5).mono ?_); rintro e w6 ⟨A6, n6, c6, s6, B6, m6, d6, rfl, ho6, hr6, hap6, hb6⟩; have hz6 := hb6.size; (try simp at hz6)
      rw [fout_yes HK1.out, HA.out] at ho6
      rw [frest_yes HK1.out, HA.out] at hr6
      rw [fbad_yes HK1.out, HA.out]
      clear hap6
      simp only at ho6 hr6
      have hm6 : m6 ≤ 450 := by have h1 := hr6.1; have h2 := HL1.out; simp only [List.length_map, Nat.mul_one] at h1; omega
      have hE6 := hE5.below hb6
      have hl6 := Ints.of_own hr6
      go_wp2_with fail
      first | (go_region_held3 (fun _ => True) (trivial) (first | (refine at_apps (.tmp 88) (.tmp 89) rfl ?_; go_must (refine step_app (own_empty w6 w6.heap.size (Nat.le_refl _)) ((Ints.lift hl6 (by repeat (first | (with_reducible exact hl6) | (with_reducible refine Ints.drew ?_) | (with_reducible refine Ints.drewN ?_ _) | (with_reducible refine Ints.alloc ?_ _) | (with_reducible refine Ints.below ?_ (by assumption)))))) rfl (.tmp 88) (.tmp 89) rfl rfl rfl (m6) (by first | omega | (simp; done) | (simp; omega)) (by first | omega | (simp; done) | (simp; omega)) (by first | omega | (simp; done) | (simp; omega)) ?_; intro A7 c7 w7 own7 ho7 hat7 hc7 hd7; (try simp only [List.nil_append] at own7); have hz7 := ho7.size; (try simp at hz7))) | (refine at_apps (.tmp 90) (.tmp 93) rfl ?_; go_must (refine step_app ((own_lift own7 (by repeat (first | (with_reducible exact own7) | (with_reducible refine World.ownsRow.drew ?_) | (with_reducible refine own_drewN ?_ _) | (with_reducible refine World.ownsRow.alloc ?_ _) | (with_reducible refine own_below ?_ (by assumption)))))) ((show Ints _ _ _ zs from by rw [HV2.out]; exact ints_void _ _)) rfl (.tmp 90) (.tmp 93) rfl rfl rfl (m6) (by first | omega | (simp; done) | (simp; omega)) (by first | omega | (simp; done) | (simp; omega)) (by first | omega | (simp; done) | (simp; omega)) ?_; intro A8 c8 w8 own8 ho8 hat8 hc8 hd8; (try simp only [List.nil_append] at own8); have hz8 := ho8.size; (try simp at hz8))) | (go_at_call 12; go_must ((with_reducible refine (impl_PacketsFrom A8 (m6) c8 (left ++ zs) _ (Ints.of_own own8) hc8 hd8 (by omega) (hE6.below (by repeat (first | (with_reducible exact b_refl _) | (with_reducible refine b_alloc ?_ _) | (with_reducible refine b_drew ?_) | (with_reducible refine b_drewN ?_ _) | (with_reducible refine b_set ?_ ?_ _) | (with_reducible refine b_trans ?_ (by assumption)) | (with_reducible refine b_only ?_ (by assumption) ?_) | (with_reducible refine b_own ?_ (by assumption) ?_) | omega | (focus (intro g hg; simp [Value.ownBlock] at hg; done)) | (focus (intro g hg; simp [Value.ownBlock] at hg; omega)) | (focus (refine fun g hg => Nat.le_trans ?_ (World.ownsRow.lt (by assumption) g hg).1; first | omega | (simp; done) | (simp; omega))) | (focus (simp; done)) | (focus (simp; omega)))))).mono ?_); rintro e w10 ⟨A10, n10, c10, s10, B10, m10, d10, rfl, ho10, hr10, hap10, hb10⟩; have hz10 := hb10.size; (try simp at hz10))))) | fail
      all_goals
        have hb8 : Below w6.heap.size w6 w10 := (by repeat (first | (with_reducible exact b_refl _) | (with_reducible refine b_alloc ?_ _) | (with_reducible refine b_drew ?_) | (with_reducible refine b_drewN ?_ _) | (with_reducible refine b_set ?_ ?_ _) | (with_reducible refine b_trans ?_ (by assumption)) | (with_reducible refine b_only ?_ (by assumption) ?_) | (with_reducible refine b_own ?_ (by assumption) ?_) | omega | (focus (intro g hg; simp [Value.ownBlock] at hg; done)) | (focus (intro g hg; simp [Value.ownBlock] at hg; omega)) | (focus (refine fun g hg => Nat.le_trans ?_ (World.ownsRow.lt (by assumption) g hg).1; first | omega | (simp; done) | (simp; omega))) | (focus (simp; done)) | (focus (simp; omega))))
        rw [fout_yes HK2.out, HB.out] at ho10
        rw [frest_yes HK2.out, HB.out] at hr10
        rw [fbad_yes HK2.out, HB.out]
        clear hap10
        simp only at ho10 hr10
        have a10 := ho6.below hb8
        have g10 := (g5.below hb6).below hb8
        have i10 := own_below (own_below i5 hb6) hb8
        have U10 : Below w.heap.size w w10 := b_trans (b_trans B5 hb6) hb8
        have hn6 : n6 ≤ 450 ∧ n10 ≤ 450 := by have h1 := ho6.len; have h2 := ho10.len; have h3 := HN1.out; omega
        have HPS := Lib.hid HAB.out.1
        obtain rfl : n2 = n6 + n10 := by have h1 := ho6.len; have h2 := ho10.len; have h3 := HPL.out; rw [HPS.out, List.length_append] at h3; omega
        have HCC : Hid (cur2 = cur) := HAB.out.2.2.symm
        obtain rfl : m10 = m2 := by have h1 := hr10.1; have h2 := HCL.out; rw [HCC.out] at h1; simp only [List.length_map, Nat.mul_one] at h1; omega
        clear hb8 hE6 hl6 own8 own7 ho7 ho8 hb10
        go_wp2_with (first | (at_builtin; refine at_app (.tmp 99) (.tmp 100) rfl ?_; go_must (refine wpList_appS (ownS_empty w10 w10.heap.size (Nat.le_refl _)) ((a10.read.alloc (.cells #[] 22)).1) rfl (.tmp 99) (.tmp 100) rfl rfl rfl (n6) (by first | omega | (simp; done) | (simp; omega)) (by first | omega | (simp; done) | (simp; omega)) (by first | omega | (simp; done) | (simp; omega)) ?_; intro A11 c11 w11 own11 ho11 hat11 hc11 hd11; (try simp only [List.nil_append] at own11); have hz11 := ho11.size; (try simp at hz11); have hb11 : Below w10.heap.size w10 w11 := (by repeat (first | (with_reducible exact b_refl _) | (with_reducible refine b_alloc ?_ _) | (with_reducible refine b_drew ?_) | (with_reducible refine b_drewN ?_ _) | (with_reducible refine b_set ?_ ?_ _) | (with_reducible refine b_trans ?_ (by assumption)) | (with_reducible refine b_only ?_ (by assumption) ?_) | (with_reducible refine b_own ?_ (by assumption) ?_) | omega | (focus (intro g hg; simp [Value.ownBlock] at hg; done)) | (focus (intro g hg; simp [Value.ownBlock] at hg; omega)) | (focus (refine fun g hg => Nat.le_trans ?_ (World.ownsRow.lt (by assumption) g hg).1; first | omega | (simp; done) | (simp; omega))) | (focus (simp; done)) | (focus (simp; omega)))))) | (at_builtin; refine at_app (.tmp 101) (.tmp 102) rfl ?_; go_must (refine wpList_appS ((own_lift own11 (by repeat (first | (with_reducible exact own11) | (with_reducible refine World.ownsRow.drew ?_) | (with_reducible refine own_drewN ?_ _) | (with_reducible refine World.ownsRow.alloc ?_ _) | (with_reducible refine own_below ?_ (by assumption)))))) ((ho10.read.below hb11).1) rfl (.tmp 101) (.tmp 102) rfl rfl rfl (n6 + n10) (by first | omega | (simp; done) | (simp; omega)) (by first | omega | (simp; done) | (simp; omega)) (by first | omega | (simp; done) | (simp; omega)) ?_; intro A12 c12 w12 own12 ho12 hat12 hc12 hd12; (try simp only [List.nil_append] at own12); have hz12 := ho12.size; (try simp at hz12); have hb12 : Below w10.heap.size w10 w12 := (by repeat (first | (with_reducible exact b_refl _) | (with_reducible refine b_alloc ?_ _) | (with_reducible refine b_drew ?_) | (with_reducible refine b_drewN ?_ _) | (with_reducible refine b_set ?_ ?_ _) | (with_reducible refine b_trans ?_ (by assumption)) | (with_reducible refine b_only ?_ (by assumption) ?_) | (with_reducible refine b_own ?_ (by assumption) ?_) | omega | (focus (intro g hg; simp [Value.ownBlock] at hg; done)) | (focus (intro g hg; simp [Value.ownBlock] at hg; omega)) | (focus (refine fun g hg => Nat.le_trans ?_ (World.ownsRow.lt (by assumption) g hg).1; first | omega | (simp; done) | (simp; omega))) | (focus (simp; done)) | (focus (simp; omega)))))))
        have hS : Lists w12 A12 (n6 + n10) (s6 ++ s10) ps := by rw [HPS.out]; exact Lists.append (by simpa using own12) (a10.read.below hb12) (ho10.read.below hb12) rfl
        (with_reducible refine (samePackets_same A12 A2 (n6 + n10) c12 c2 (s6 ++ s10) s2 ps _ hS (g10.below hb12).read (by omega) HT.out).mono ?_); rintro e w13 ⟨rfl, hb13⟩
        go_wp2_with fail
        (with_reducible refine (sameInts_any B10 B2 m10 m10 d10 d2 cur2 cur _ (Ints.of_own (own_below (own_below hr10 hb12) hb13)) (Ints.of_own (own_below (own_below i10 hb12) hb13)) (by omega) (by omega)).mono ?_); rintro e w14 ⟨rfl, hb14⟩; have hz14 := hb14.size; (try simp at hz14)
        go_wp2
        go_ret
        exact ⟨ret_bool (by simp [HCC.out, hxy]), b_trans (b_trans (b_trans U10 hb12) hb13) hb14⟩
    · skip
      go_wp2_with fail
      (with_reducible refine (impl_PacketsFrom _ 0 c1 (xs.take 0) _ (by rw [HV1.out]; exact ints_void _ _) (by omega) hd9 (by omega) hE5).mono ?_); rintro e w6 ⟨A6, n6, c6, s6, B6, m6, d6, rfl, ho6, hr6, hap6, hb6⟩; have hz6 := hb6.size; (try simp at hz6)
      rw [fout_yes HK1.out, HA.out] at ho6
      rw [frest_yes HK1.out, HA.out] at hr6
      rw [fbad_yes HK1.out, HA.out]
      clear hap6
      simp only at ho6 hr6
      have hm6 : m6 ≤ 450 := by have h1 := hr6.1; have h2 := HL1.out; simp only [List.length_map, Nat.mul_one] at h1; omega
      have hE6 := hE5.below hb6
      have hl6 := Ints.of_own hr6
      go_wp2_with fail
      first | (go_region_held3 (fun _ => True) (trivial) (first | (refine at_apps (.tmp 88) (.tmp 89) rfl ?_; go_must (refine step_app (own_empty w6 w6.heap.size (Nat.le_refl _)) ((Ints.lift hl6 (by repeat (first | (with_reducible exact hl6) | (with_reducible refine Ints.drew ?_) | (with_reducible refine Ints.drewN ?_ _) | (with_reducible refine Ints.alloc ?_ _) | (with_reducible refine Ints.below ?_ (by assumption)))))) rfl (.tmp 88) (.tmp 89) rfl rfl rfl (m6) (by first | omega | (simp; done) | (simp; omega)) (by first | omega | (simp; done) | (simp; omega)) (by first | omega | (simp; done) | (simp; omega)) ?_; intro A7 c7 w7 own7 ho7 hat7 hc7 hd7; (try simp only [List.nil_append] at own7); have hz7 := ho7.size; (try simp at hz7))) | (refine at_apps (.tmp 90) (.tmp 93) rfl ?_; go_must (refine step_app ((own_lift own7 (by repeat (first | (with_reducible exact own7) | (with_reducible refine World.ownsRow.drew ?_) | (with_reducible refine own_drewN ?_ _) | (with_reducible refine World.ownsRow.alloc ?_ _) | (with_reducible refine own_below ?_ (by assumption)))))) ((show Ints _ _ _ zs from by rw [HV2.out]; exact ints_void _ _)) rfl (.tmp 90) (.tmp 93) rfl rfl rfl (m6) (by first | omega | (simp; done) | (simp; omega)) (by first | omega | (simp; done) | (simp; omega)) (by first | omega | (simp; done) | (simp; omega)) ?_; intro A8 c8 w8 own8 ho8 hat8 hc8 hd8; (try simp only [List.nil_append] at own8); have hz8 := ho8.size; (try simp at hz8))) | (go_at_call 12; go_must ((with_reducible refine (impl_PacketsFrom A8 (m6) c8 (left ++ zs) _ (Ints.of_own own8) hc8 hd8 (by omega) (hE6.below (by repeat (first | (with_reducible exact b_refl _) | (with_reducible refine b_alloc ?_ _) | (with_reducible refine b_drew ?_) | (with_reducible refine b_drewN ?_ _) | (with_reducible refine b_set ?_ ?_ _) | (with_reducible refine b_trans ?_ (by assumption)) | (with_reducible refine b_only ?_ (by assumption) ?_) | (with_reducible refine b_own ?_ (by assumption) ?_) | omega | (focus (intro g hg; simp [Value.ownBlock] at hg; done)) | (focus (intro g hg; simp [Value.ownBlock] at hg; omega)) | (focus (refine fun g hg => Nat.le_trans ?_ (World.ownsRow.lt (by assumption) g hg).1; first | omega | (simp; done) | (simp; omega))) | (focus (simp; done)) | (focus (simp; omega)))))).mono ?_); rintro e w10 ⟨A10, n10, c10, s10, B10, m10, d10, rfl, ho10, hr10, hap10, hb10⟩; have hz10 := hb10.size; (try simp at hz10))))) | fail
      all_goals
        have hb8 : Below w6.heap.size w6 w10 := (by repeat (first | (with_reducible exact b_refl _) | (with_reducible refine b_alloc ?_ _) | (with_reducible refine b_drew ?_) | (with_reducible refine b_drewN ?_ _) | (with_reducible refine b_set ?_ ?_ _) | (with_reducible refine b_trans ?_ (by assumption)) | (with_reducible refine b_only ?_ (by assumption) ?_) | (with_reducible refine b_own ?_ (by assumption) ?_) | omega | (focus (intro g hg; simp [Value.ownBlock] at hg; done)) | (focus (intro g hg; simp [Value.ownBlock] at hg; omega)) | (focus (refine fun g hg => Nat.le_trans ?_ (World.ownsRow.lt (by assumption) g hg).1; first | omega | (simp; done) | (simp; omega))) | (focus (simp; done)) | (focus (simp; omega))))
        rw [fout_yes HK2.out, HB.out] at ho10
        rw [frest_yes HK2.out, HB.out] at hr10
        rw [fbad_yes HK2.out, HB.out]
        clear hap10
        simp only at ho10 hr10
        have a10 := ho6.below hb8
        have g10 := (g5.below hb6).below hb8
        have i10 := own_below (own_below i5 hb6) hb8
        have U10 : Below w.heap.size w w10 := b_trans (b_trans B5 hb6) hb8
        have hn6 : n6 ≤ 450 ∧ n10 ≤ 450 := by have h1 := ho6.len; have h2 := ho10.len; have h3 := HN1.out; omega
        have HPS := Lib.hid HAB.out.1
        obtain rfl : n2 = n6 + n10 := by have h1 := ho6.len; have h2 := ho10.len; have h3 := HPL.out; rw [HPS.out, List.length_append] at h3; omega
        have HCC : Hid (cur2 = cur) := HAB.out.2.2.symm
        obtain rfl : m10 = m2 := by have h1 := hr10.1; have h2 := HCL.out; rw [HCC.out] at h1; simp only [List.length_map, Nat.mul_one] at h1; omega
        clear hb8 hE6 hl6 own8 own7 ho7 ho8 hb10
        go_wp2_with (first | (at_builtin; refine at_app (.tmp 99) (.tmp 100) rfl ?_; go_must (refine wpList_appS (ownS_empty w10 w10.heap.size (Nat.le_refl _)) ((a10.read.alloc (.cells #[] 22)).1) rfl (.tmp 99) (.tmp 100) rfl rfl rfl (n6) (by first | omega | (simp; done) | (simp; omega)) (by first | omega | (simp; done) | (simp; omega)) (by first | omega | (simp; done) | (simp; omega)) ?_; intro A11 c11 w11 own11 ho11 hat11 hc11 hd11; (try simp only [List.nil_append] at own11); have hz11 := ho11.size; (try simp at hz11); have hb11 : Below w10.heap.size w10 w11 := (by repeat (first | (with_reducible exact b_refl _) | (with_reducible refine b_alloc ?_ _) | (with_reducible refine b_drew ?_) | (with_reducible refine b_drewN ?_ _) | (with_reducible refine b_set ?_ ?_ _) | (with_reducible refine b_trans ?_ (by assumption)) | (with_reducible refine b_only ?_ (by assumption) ?_) | (with_reducible refine b_own ?_ (by assumption) ?_) | omega | (focus (intro g hg; simp [Value.ownBlock] at hg; done)) | (focus (intro g hg; simp [Value.ownBlock] at hg; omega)) | (focus (refine fun g hg => Nat.le_trans ?_ (World.ownsRow.lt (by assumption) g hg).1; first | omega | (simp; done) | (simp; omega))) | (focus (simp; done)) | (focus (simp; omega)))))) | (at_builtin; refine at_app (.tmp 101) (.tmp 102) rfl ?_; go_must (refine wpList_appS ((own_lift own11 (by repeat (first | (with_reducible exact own11) | (with_reducible refine World.ownsRow.drew ?_) | (with_reducible refine own_drewN ?_ _) | (with_reducible refine World.ownsRow.alloc ?_ _) | (with_reducible refine own_below ?_ (by assumption)))))) ((ho10.read.below hb11).1) rfl (.tmp 101) (.tmp 102) rfl rfl rfl (n6 + n10) (by first | omega | (simp; done) | (simp; omega)) (by first | omega | (simp; done) | (simp; omega)) (by first | omega | (simp; done) | (simp; omega)) ?_; intro A12 c12 w12 own12 ho12 hat12 hc12 hd12; (try simp only [List.nil_append] at own12); have hz12 := ho12.size; (try simp at hz12); have hb12 : Below w10.heap.size w10 w12 := (by repeat (first | (with_reducible exact b_refl _) | (with_reducible refine b_alloc ?_ _) | (with_reducible refine b_drew ?_) | (with_reducible refine b_drewN ?_ _) | (with_reducible refine b_set ?_ ?_ _) | (with_reducible refine b_trans ?_ (by assumption)) | (with_reducible refine b_only ?_ (by assumption) ?_) | (with_reducible refine b_own ?_ (by assumption) ?_) | omega | (focus (intro g hg; simp [Value.ownBlock] at hg; done)) | (focus (intro g hg; simp [Value.ownBlock] at hg; omega)) | (focus (refine fun g hg => Nat.le_trans ?_ (World.ownsRow.lt (by assumption) g hg).1; first | omega | (simp; done) | (simp; omega))) | (focus (simp; done)) | (focus (simp; omega)))))))
        have hS : Lists w12 A12 (n6 + n10) (s6 ++ s10) ps := by rw [HPS.out]; exact Lists.append (by simpa using own12) (a10.read.below hb12) (ho10.read.below hb12) rfl
        (with_reducible refine (samePackets_same A12 A2 (n6 + n10) c12 c2 (s6 ++ s10) s2 ps _ hS (g10.below hb12).read (by omega) HT.out).mono ?_); rintro e w13 ⟨rfl, hb13⟩
        go_wp2_with fail
        (with_reducible refine (sameInts_any B10 B2 m10 m10 d10 d2 cur2 cur _ (Ints.of_own (own_below (own_below hr10 hb12) hb13)) (Ints.of_own (own_below (own_below i10 hb12) hb13)) (by omega) (by omega)).mono ?_); rintro e w14 ⟨rfl, hb14⟩; have hz14 := hb14.size; (try simp at hz14)
        go_wp2
        go_ret
        exact ⟨ret_bool (by simp [HCC.out, hxy]), b_trans (b_trans (b_trans U10 hb12) hb13) hb14⟩
  · obtain ⟨b, o, x0, rfl, _, _, _⟩ := hx5.at_ (k := 0) (by omega)
    have hT := hx5.take hk
    by_cases hck : c1 = k
    · have hnk : n1 = k := by omega
      have hck2 : c1 = n1 := by omega
      subst hck2
      subst hnk
      have HV2 : Hid (zs = []) := HZ.out.symm.trans (List.drop_eq_nil_of_le (by have := HX.out; omega))
      go_wp2_with fail
      (with_reducible refine (impl_PacketsFrom _ c1 c1 (xs.take c1) _ hT (by omega) hd9 (by omega) hE5).mono ?_); rintro e w6 ⟨A6, n6, c6, s6, B6, m6, d6, rfl, ho6, hr6, hap6, hb6⟩; have hz6 := hb6.size; (try simp at hz6)
      rw [fout_yes HK1.out, HA.out] at ho6
      rw [frest_yes HK1.out, HA.out] at hr6
      rw [fbad_yes HK1.out, HA.out]
      clear hap6
      simp only at ho6 hr6
      have hm6 : m6 ≤ 450 := by have h1 := hr6.1; have h2 := HL1.out; simp only [List.length_map, Nat.mul_one] at h1; omega
      have hE6 := hE5.below hb6
      have hl6 := Ints.of_own hr6
      go_wp2_with fail
      first | (go_region_held3 (fun _ => True) (trivial) (first | (refine at_apps (.tmp 88) (.tmp 89) rfl ?_; go_must (refine step_app (own_empty w6 w6.heap.size (Nat.le_refl _)) ((Ints.lift hl6 (by repeat (first | (with_reducible exact hl6) | (with_reducible refine Ints.drew ?_) | (with_reducible refine Ints.drewN ?_ _) | (with_reducible refine Ints.alloc ?_ _) | (with_reducible refine Ints.below ?_ (by assumption)))))) rfl (.tmp 88) (.tmp 89) rfl rfl rfl (m6) (by first | omega | (simp; done) | (simp; omega)) (by first | omega | (simp; done) | (simp; omega)) (by first | omega | (simp; done) | (simp; omega)) ?_; intro A7 c7 w7 own7 ho7 hat7 hc7 hd7; (try simp only [List.nil_append] at own7); have hz7 := ho7.size; (try simp at hz7))) | (refine at_apps (.tmp 90) (.tmp 93) rfl ?_; go_must (refine step_app ((own_lift own7 (by repeat (first | (with_reducible exact own7) | (with_reducible refine World.ownsRow.drew ?_) | (with_reducible refine own_drewN ?_ _) | (with_reducible refine World.ownsRow.alloc ?_ _) | (with_reducible refine own_below ?_ (by assumption)))))) ((show Ints _ _ _ zs from by rw [HV2.out]; exact ints_void _ _)) rfl (.tmp 90) (.tmp 93) rfl rfl rfl (m6) (by first | omega | (simp; done) | (simp; omega)) (by first | omega | (simp; done) | (simp; omega)) (by first | omega | (simp; done) | (simp; omega)) ?_; intro A8 c8 w8 own8 ho8 hat8 hc8 hd8; (try simp only [List.nil_append] at own8); have hz8 := ho8.size; (try simp at hz8))) | (go_at_call 12; go_must ((with_reducible refine (impl_PacketsFrom A8 (m6) c8 (left ++ zs) _ (Ints.of_own own8) hc8 hd8 (by omega) (hE6.below (by repeat (first | (with_reducible exact b_refl _) | (with_reducible refine b_alloc ?_ _) | (with_reducible refine b_drew ?_) | (with_reducible refine b_drewN ?_ _) | (with_reducible refine b_set ?_ ?_ _) | (with_reducible refine b_trans ?_ (by assumption)) | (with_reducible refine b_only ?_ (by assumption) ?_) | (with_reducible refine b_own ?_ (by assumption) ?_) | omega | (focus (intro g hg; simp [Value.ownBlock] at hg; done)) | (focus (intro g hg; simp [Value.ownBlock] at hg; omega)) | (focus (refine fun g hg => Nat.le_trans ?_ (World.ownsRow.lt (by assumption) g hg).1; first | omega | (simp; done) | (simp; omega))) | (focus (simp; done)) | (focus (simp; omega)))))).mono ?_); rintro e w10 ⟨A10, n10, c10, s10, B10, m10, d10, rfl, ho10, hr10, hap10, hb10⟩; have hz10 := hb10.size; (try simp at hz10))))) | fail
      all_goals
        have hb8 : Below w6.heap.size w6 w10 := (by repeat (first | (with_reducible exact b_refl _) | (with_reducible refine b_alloc ?_ _) | (with_reducible refine b_drew ?_) | (with_reducible refine b_drewN ?_ _) | (with_reducible refine b_set ?_ ?_ _) | (with_reducible refine b_trans ?_ (by assumption)) | (with_reducible refine b_only ?_ (by assumption) ?_) | (with_reducible refine b_own ?_ (by assumption) ?_) | omega | (focus (intro g hg; simp [Value.ownBlock] at hg; done)) | (focus (intro g hg; simp [Value.ownBlock] at hg; omega)) | (focus (refine fun g hg => Nat.le_trans ?_ (World.ownsRow.lt (by assumption) g hg).1; first | omega | (simp; done) | (simp; omega))) | (focus (simp; done)) | (focus (simp; omega))))
        rw [fout_yes HK2.out, HB.out] at ho10
        rw [frest_yes HK2.out, HB.out] at hr10
        rw [fbad_yes HK2.out, HB.out]
        clear hap10
        simp only at ho10 hr10
        have a10 := ho6.below hb8
        have g10 := (g5.below hb6).below hb8
        have i10 := own_below (own_below i5 hb6) hb8
        have U10 : Below w.heap.size w w10 := b_trans (b_trans B5 hb6) hb8
        have hn6 : n6 ≤ 450 ∧ n10 ≤ 450 := by have h1 := ho6.len; have h2 := ho10.len; have h3 := HN1.out; omega
        have HPS := Lib.hid HAB.out.1
        obtain rfl : n2 = n6 + n10 := by have h1 := ho6.len; have h2 := ho10.len; have h3 := HPL.out; rw [HPS.out, List.length_append] at h3; omega
        have HCC : Hid (cur2 = cur) := HAB.out.2.2.symm
        obtain rfl : m10 = m2 := by have h1 := hr10.1; have h2 := HCL.out; rw [HCC.out] at h1; simp only [List.length_map, Nat.mul_one] at h1; omega
        clear hb8 hE6 hl6 own8 own7 ho7 ho8 hb10
        go_wp2_with (first | (at_builtin; refine at_app (.tmp 99) (.tmp 100) rfl ?_; go_must (refine wpList_appS (ownS_empty w10 w10.heap.size (Nat.le_refl _)) ((a10.read.alloc (.cells #[] 22)).1) rfl (.tmp 99) (.tmp 100) rfl rfl rfl (n6) (by first | omega | (simp; done) | (simp; omega)) (by first | omega | (simp; done) | (simp; omega)) (by first | omega | (simp; done) | (simp; omega)) ?_; intro A11 c11 w11 own11 ho11 hat11 hc11 hd11; (try simp only [List.nil_append] at own11); have hz11 := ho11.size; (try simp at hz11); have hb11 : Below w10.heap.size w10 w11 := (by repeat (first | (with_reducible exact b_refl _) | (with_reducible refine b_alloc ?_ _) | (with_reducible refine b_drew ?_) | (with_reducible refine b_drewN ?_ _) | (with_reducible refine b_set ?_ ?_ _) | (with_reducible refine b_trans ?_ (by assumption)) | (with_reducible refine b_only ?_ (by assumption) ?_) | (with_reducible refine b_own ?_ (by assumption) ?_) | omega | (focus (intro g hg; simp [Value.ownBlock] at hg; done)) | (focus (intro g hg; simp [Value.ownBlock] at hg; omega)) | (focus (refine fun g hg => Nat.le_trans ?_ (World.ownsRow.lt (by assumption) g hg).1; first | omega | (simp; done) | (simp; omega))) | (focus (simp; done)) | (focus (simp; omega)))))) | (at_builtin; refine at_app (.tmp 101) (.tmp 102) rfl ?_; go_must (refine wpList_appS ((own_lift own11 (by repeat (first | (with_reducible exact own11) | (with_reducible refine World.ownsRow.drew ?_) | (with_reducible refine own_drewN ?_ _) | (with_reducible refine World.ownsRow.alloc ?_ _) | (with_reducible refine own_below ?_ (by assumption)))))) ((ho10.read.below hb11).1) rfl (.tmp 101) (.tmp 102) rfl rfl rfl (n6 + n10) (by first | omega | (simp; done) | (simp; omega)) (by first | omega | (simp; done) | (simp; omega)) (by first | omega | (simp; done) | (simp; omega)) ?_; intro A12 c12 w12 own12 ho12 hat12 hc12 hd12; (try simp only [List.nil_append] at own12); have hz12 := ho12.size; (try simp at hz12); have hb12 : Below w10.heap.size w10 w12 := (by repeat (first | (with_reducible exact b_refl _) | (with_reducible refine b_alloc ?_ _) | (with_reducible refine b_drew ?_) | (with_reducible refine b_drewN ?_ _) | (with_reducible refine b_set ?_ ?_ _) | (with_reducible refine b_trans ?_ (by assumption)) | (with_reducible refine b_only ?_ (by assumption) ?_) | (with_reducible refine b_own ?_ (by assumption) ?_) | omega | (focus (intro g hg; simp [Value.ownBlock] at hg; done)) | (focus (intro g hg; simp [Value.ownBlock] at hg; omega)) | (focus (refine fun g hg => Nat.le_trans ?_ (World.ownsRow.lt (by assumption) g hg).1; first | omega | (simp; done) | (simp; omega))) | (focus (simp; done)) | (focus (simp; omega)))))))
        have hS : Lists w12 A12 (n6 + n10) (s6 ++ s10) ps := by rw [HPS.out]; exact Lists.append (by simpa using own12) (a10.read.below hb12) (ho10.read.below hb12) rfl
        (with_reducible refine (samePackets_same A12 A2 (n6 + n10) c12 c2 (s6 ++ s10) s2 ps _ hS (g10.below hb12).read (by omega) HT.out).mono ?_); rintro e w13 ⟨rfl, hb13⟩
        go_wp2_with fail
        (with_reducible refine (sameInts_any B10 B2 m10 m10 d10 d2 cur2 cur _ (Ints.of_own (own_below (own_below hr10 hb12) hb13)) (Ints.of_own (own_below (own_below i10 hb12) hb13)) (by omega) (by omega)).mono ?_); rintro e w14 ⟨rfl, hb14⟩; have hz14 := hb14.size; (try simp at hz14)
        go_wp2
        go_ret
        exact ⟨ret_bool (by simp [HCC.out, hxy]), b_trans (b_trans (b_trans U10 hb12) hb13) hb14⟩
    · have hck2 : ¬ k = c1 := fun e => hck e.symm
      have hD := hx5.drop hk
      rw [HZ.out] at hD
      go_wp2_with fail
      (with_reducible refine (impl_PacketsFrom _ k c1 (xs.take k) _ hT (by omega) hd9 (by omega) hE5).mono ?_); rintro e w6 ⟨A6, n6, c6, s6, B6, m6, d6, rfl, ho6, hr6, hap6, hb6⟩; have hz6 := hb6.size; (try simp at hz6)
      rw [fout_yes HK1.out, HA.out] at ho6
      rw [frest_yes HK1.out, HA.out] at hr6
      rw [fbad_yes HK1.out, HA.out]
      clear hap6
      simp only at ho6 hr6
      have hm6 : m6 ≤ 450 := by have h1 := hr6.1; have h2 := HL1.out; simp only [List.length_map, Nat.mul_one] at h1; omega
      have hE6 := hE5.below hb6
      have hl6 := Ints.of_own hr6
      have hD6 := (hD).below hb6
      go_wp2_with fail
      first | (go_region_held3 (fun _ => True) (trivial) (first | (refine at_apps (.tmp 88) (.tmp 89) rfl ?_; go_must (refine step_app (own_empty w6 w6.heap.size (Nat.le_refl _)) ((Ints.lift hl6 (by repeat (first | (with_reducible exact hl6) | (with_reducible refine Ints.drew ?_) | (with_reducible refine Ints.drewN ?_ _) | (with_reducible refine Ints.alloc ?_ _) | (with_reducible refine Ints.below ?_ (by assumption)))))) rfl (.tmp 88) (.tmp 89) rfl rfl rfl (m6) (by first | omega | (simp; done) | (simp; omega)) (by first | omega | (simp; done) | (simp; omega)) (by first | omega | (simp; done) | (simp; omega)) ?_; intro A7 c7 w7 own7 ho7 hat7 hc7 hd7; (try simp only [List.nil_append] at own7); have hz7 := ho7.size; (try simp at hz7); have hb7 : Below w6.heap.size w6 w7 := (by repeat (first | (with_reducible exact b_refl _) | (with_reducible refine b_alloc ?_ _) | (with_reducible refine b_drew ?_) | (with_reducible refine b_drewN ?_ _) | (with_reducible refine b_set ?_ ?_ _) | (with_reducible refine b_trans ?_ (by assumption)) | (with_reducible refine b_only ?_ (by assumption) ?_) | (with_reducible refine b_own ?_ (by assumption) ?_) | omega | (focus (intro g hg; simp [Value.ownBlock] at hg; done)) | (focus (intro g hg; simp [Value.ownBlock] at hg; omega)) | (focus (refine fun g hg => Nat.le_trans ?_ (World.ownsRow.lt (by assumption) g hg).1; first | omega | (simp; done) | (simp; omega))) | (focus (simp; done)) | (focus (simp; omega)))); have hD7 := hD6.below hb7)) | (refine at_apps (.tmp 90) (.tmp 93) rfl ?_; go_must (refine step_app ((own_lift own7 (by repeat (first | (with_reducible exact own7) | (with_reducible refine World.ownsRow.drew ?_) | (with_reducible refine own_drewN ?_ _) | (with_reducible refine World.ownsRow.alloc ?_ _) | (with_reducible refine own_below ?_ (by assumption)))))) ((Ints.lift hD7 (by repeat (first | (with_reducible exact hD7) | (with_reducible refine Ints.drew ?_) | (with_reducible refine Ints.drewN ?_ _) | (with_reducible refine Ints.alloc ?_ _) | (with_reducible refine Ints.below ?_ (by assumption)))))) rfl (.tmp 90) (.tmp 93) rfl rfl rfl (m6 + (n1 - k)) (by first | omega | (simp; done) | (simp; omega)) (by first | omega | (simp; done) | (simp; omega)) (by first | omega | (simp; done) | (simp; omega)) ?_; intro A8 c8 w8 own8 ho8 hat8 hc8 hd8; (try simp only [List.nil_append] at own8); have hz8 := ho8.size; (try simp at hz8))) | (go_at_call 12; go_must ((with_reducible refine (impl_PacketsFrom A8 (m6 + (n1 - k)) c8 (left ++ zs) _ (Ints.of_own own8) hc8 hd8 (by omega) (hE6.below (by repeat (first | (with_reducible exact b_refl _) | (with_reducible refine b_alloc ?_ _) | (with_reducible refine b_drew ?_) | (with_reducible refine b_drewN ?_ _) | (with_reducible refine b_set ?_ ?_ _) | (with_reducible refine b_trans ?_ (by assumption)) | (with_reducible refine b_only ?_ (by assumption) ?_) | (with_reducible refine b_own ?_ (by assumption) ?_) | omega | (focus (intro g hg; simp [Value.ownBlock] at hg; done)) | (focus (intro g hg; simp [Value.ownBlock] at hg; omega)) | (focus (refine fun g hg => Nat.le_trans ?_ (World.ownsRow.lt (by assumption) g hg).1; first | omega | (simp; done) | (simp; omega))) | (focus (simp; done)) | (focus (simp; omega)))))).mono ?_); rintro e w10 ⟨A10, n10, c10, s10, B10, m10, d10, rfl, ho10, hr10, hap10, hb10⟩; have hz10 := hb10.size; (try simp at hz10))))) | fail
      all_goals
        have hb8 : Below w6.heap.size w6 w10 := (by repeat (first | (with_reducible exact b_refl _) | (with_reducible refine b_alloc ?_ _) | (with_reducible refine b_drew ?_) | (with_reducible refine b_drewN ?_ _) | (with_reducible refine b_set ?_ ?_ _) | (with_reducible refine b_trans ?_ (by assumption)) | (with_reducible refine b_only ?_ (by assumption) ?_) | (with_reducible refine b_own ?_ (by assumption) ?_) | omega | (focus (intro g hg; simp [Value.ownBlock] at hg; done)) | (focus (intro g hg; simp [Value.ownBlock] at hg; omega)) | (focus (refine fun g hg => Nat.le_trans ?_ (World.ownsRow.lt (by assumption) g hg).1; first | omega | (simp; done) | (simp; omega))) | (focus (simp; done)) | (focus (simp; omega))))
        rw [fout_yes HK2.out, HB.out] at ho10
        rw [frest_yes HK2.out, HB.out] at hr10
        rw [fbad_yes HK2.out, HB.out]
        clear hap10
        simp only at ho10 hr10
        have a10 := ho6.below hb8
        have g10 := (g5.below hb6).below hb8
        have i10 := own_below (own_below i5 hb6) hb8
        have U10 : Below w.heap.size w w10 := b_trans (b_trans B5 hb6) hb8
        have hn6 : n6 ≤ 450 ∧ n10 ≤ 450 := by have h1 := ho6.len; have h2 := ho10.len; have h3 := HN1.out; omega
        have HPS := Lib.hid HAB.out.1
        obtain rfl : n2 = n6 + n10 := by have h1 := ho6.len; have h2 := ho10.len; have h3 := HPL.out; rw [HPS.out, List.length_append] at h3; omega
        have HCC : Hid (cur2 = cur) := HAB.out.2.2.symm
        obtain rfl : m10 = m2 := by have h1 := hr10.1; have h2 := HCL.out; rw [HCC.out] at h1; simp only [List.length_map, Nat.mul_one] at h1; omega
        clear hb8 hE6 hl6 hD6 hD7 own8 own7 ho7 ho8 hb10
        go_wp2_with (first | (at_builtin; refine at_app (.tmp 99) (.tmp 100) rfl ?_; go_must (refine wpList_appS (ownS_empty w10 w10.heap.size (Nat.le_refl _)) ((a10.read.alloc (.cells #[] 22)).1) rfl (.tmp 99) (.tmp 100) rfl rfl rfl (n6) (by first | omega | (simp; done) | (simp; omega)) (by first | omega | (simp; done) | (simp; omega)) (by first | omega | (simp; done) | (simp; omega)) ?_; intro A11 c11 w11 own11 ho11 hat11 hc11 hd11; (try simp only [List.nil_append] at own11); have hz11 := ho11.size; (try simp at hz11); have hb11 : Below w10.heap.size w10 w11 := (by repeat (first | (with_reducible exact b_refl _) | (with_reducible refine b_alloc ?_ _) | (with_reducible refine b_drew ?_) | (with_reducible refine b_drewN ?_ _) | (with_reducible refine b_set ?_ ?_ _) | (with_reducible refine b_trans ?_ (by assumption)) | (with_reducible refine b_only ?_ (by assumption) ?_) | (with_reducible refine b_own ?_ (by assumption) ?_) | omega | (focus (intro g hg; simp [Value.ownBlock] at hg; done)) | (focus (intro g hg; simp [Value.ownBlock] at hg; omega)) | (focus (refine fun g hg => Nat.le_trans ?_ (World.ownsRow.lt (by assumption) g hg).1; first | omega | (simp; done) | (simp; omega))) | (focus (simp; done)) | (focus (simp; omega)))))) | (at_builtin; refine at_app (.tmp 101) (.tmp 102) rfl ?_; go_must (refine wpList_appS ((own_lift own11 (by repeat (first | (with_reducible exact own11) | (with_reducible refine World.ownsRow.drew ?_) | (with_reducible refine own_drewN ?_ _) | (with_reducible refine World.ownsRow.alloc ?_ _) | (with_reducible refine own_below ?_ (by assumption)))))) ((ho10.read.below hb11).1) rfl (.tmp 101) (.tmp 102) rfl rfl rfl (n6 + n10) (by first | omega | (simp; done) | (simp; omega)) (by first | omega | (simp; done) | (simp; omega)) (by first | omega | (simp; done) | (simp; omega)) ?_; intro A12 c12 w12 own12 ho12 hat12 hc12 hd12; (try simp only [List.nil_append] at own12); have hz12 := ho12.size; (try simp at hz12); have hb12 : Below w10.heap.size w10 w12 := (by repeat (first | (with_reducible exact b_refl _) | (with_reducible refine b_alloc ?_ _) | (with_reducible refine b_drew ?_) | (with_reducible refine b_drewN ?_ _) | (with_reducible refine b_set ?_ ?_ _) | (with_reducible refine b_trans ?_ (by assumption)) | (with_reducible refine b_only ?_ (by assumption) ?_) | (with_reducible refine b_own ?_ (by assumption) ?_) | omega | (focus (intro g hg; simp [Value.ownBlock] at hg; done)) | (focus (intro g hg; simp [Value.ownBlock] at hg; omega)) | (focus (refine fun g hg => Nat.le_trans ?_ (World.ownsRow.lt (by assumption) g hg).1; first | omega | (simp; done) | (simp; omega))) | (focus (simp; done)) | (focus (simp; omega)))))))
        have hS : Lists w12 A12 (n6 + n10) (s6 ++ s10) ps := by rw [HPS.out]; exact Lists.append (by simpa using own12) (a10.read.below hb12) (ho10.read.below hb12) rfl
        (with_reducible refine (samePackets_same A12 A2 (n6 + n10) c12 c2 (s6 ++ s10) s2 ps _ hS (g10.below hb12).read (by omega) HT.out).mono ?_); rintro e w13 ⟨rfl, hb13⟩
        go_wp2_with fail
        (with_reducible refine (sameInts_any B10 B2 m10 m10 d10 d2 cur2 cur _ (Ints.of_own (own_below (own_below hr10 hb12) hb13)) (Ints.of_own (own_below (own_below i10 hb12) hb13)) (by omega) (by omega)).mono ?_); rintro e w14 ⟨rfl, hb14⟩; have hz14 := hb14.size; (try simp at hz14)
        go_wp2
        go_ret
        exact ⟨ret_bool (by simp [HCC.out, hxy]), b_trans (b_trans (b_trans U10 hb12) hb13) hb14⟩
set_option maxHeartbeats 1000000 in
theorem FnPacketsFromParts_calls (A A2 : Option Addr) (n c n2 c2 : Nat) (w : World) (hC : CodeIn w A n c) (hC2 : CodeIn w A2 n2 c2) (hE : ErrT w) : Calls Tryd.prog 9 #[.slice A n c, .slice A2 n2 c2] w fun e w' => e = .returned (.bool true) ∧ Below w.heap.size w w' := by
  have hl := hC.len
  have hl2 := hC2.len
  by_cases hn : n ≤ 1048576
  · by_cases hn2 : n2 ≤ 1048576
    · exact FnPacketsFromParts_small A A2 n c n2 c2 w (hC.code hn) (hC2.code hn2) hE
    · have hm : ¬ (1048576 : Int) < n := by omega
      have hm2 : (1048576 : Int) < n2 := by omega
      go_enter Tryd.func9, Tryd.ntmps9
      go_wp2
      go_ret
      exact ⟨rfl, b_refl _⟩
  · have hm : (1048576 : Int) < n := by omega
    go_enter Tryd.func9, Tryd.ntmps9
    go_wp2
    go_ret
    exact ⟨rfl, b_refl _⟩
set_option maxRecDepth 100000 in
theorem FnPacketsFromParts_lifted (os : Os) (started : os.Started) (H : Type) (enc : TypeId × Value → H) :
    ReturnsInHanded {} Tryd.checked os 9 .any (fun w args => (Rows.fnPacketsFromPartsSpec.pre enc Tryd.prog Tryd.f9 [] false w args ∧ laidMetH Tryd.prog laidE w) ∧ sizedMet enc Tryd.prog Tryd.f9 (OpenSpec.ofChange Rows.fnPacketsFromPartsSpec) false w args)
      (Rows.fnPacketsFromPartsSpec.post enc Tryd.prog Tryd.f9 false true false false) := by
  refine returnsInHanded_of_change_and (C := Tryd.checked) (X := fun w _ => laidMetH Tryd.prog laidE w) (fun _ _ _ hh h => h.of_heap hh) own started (by kernel_rfl) Tryd.func9
    (ChangeSpec.witness_at (enc := enc) (C := Tryd.checked) (os := os) (X := fun w _ => laidMetH Tryd.prog laidE w) false (laidWorld os) #[.slice none 0 0, .slice none 0 0] 8 rfl (by kernel_rfl) (by kernel_rfl) (by kernel_rfl) (by kernel_rfl) (by kernel_rfl) (laidWorld_met os _)) ?_
  intro W base args ds gs before hval0 hW _ _ hL _
  have hval : ∀ (j : Nat) t v, Tryd.f9.params[j]? = some t → args[j]? = some v → Value.okWide Tryd.prog W .any base t v := hval0
  have hW2 := hW
  obtain ⟨p, q, hA0, hV, rfl, _, _⟩ := hW2
  have hA : DataW.TrodAll enc Tryd.prog W 0 (fun _ => true) true Tryd.f9.params.toList args.toList ds p := hA0
  rw [Tryd.params9] at hA hval
  obtain ⟨v0, v1, d0, d1, p0, p1, rfl, rfl, rfl, h0, h1⟩ := trodAll_two hA
  obtain ⟨rfl, rfl⟩ := trodVars_none hV
  obtain ⟨A0, n, c, rfl, hC⟩ := open_code (hval 0 _ v0 rfl rfl) h0
  obtain ⟨A2, n2, c2, rfl, hC2⟩ := open_code (hval 1 _ v1 rfl rfl) h1
  have hE := handle_of_laid hL
  refine (FnPacketsFromParts_calls A0 A2 n c n2 c2 W hC hC2 hE).mono fun e W' ⟨he, hb⟩ => ?_
  subst he
  exact ⟨_, rfl, law_post (f := Tryd.f9) (s := Rows.fnPacketsFromPartsSpec) 4 laid_out (by kernel_rfl) rfl (by kernel_rfl) Tryd.underlying4 hW rfl hb⟩
theorem FnPacketsFromParts_row : Rows.FnPacketsFromPartsSaid :=
  OpenClaim.holds_of_wide 9 Tryd.f9 rfl rfl rfl rfl rfl rfl rfl ⟨rfl, rfl, rfl, rfl, rfl⟩ rfl rfl rfl rfl rfl (by kernel_rfl) Tryd.func9 (by kernel_rfl)
    (of_decide_eq_true (by kernel_rfl)) (by unfold Func.isWrapper; rw [if_neg (of_decide_eq_false (by kernel_rfl))]; exact ⟨rfl, rfl⟩)
    (fun os started H enc _ => FnPacketsFromParts_lifted os started H enc)
theorem FnPacketsFromParts_holds : Rows.FnPacketsFromPartsCardSaid :=
  Claim7.holds_tied_plain_at .later [] [.handle] true _ true
    FnPacketsFromParts_row (fun _ h => by cases h) (by kernel_rfl) (fun _ h => by cases h) fnPacketsFromParts_row_tie rfl ⟨rfl, rfl⟩ (by kernel_rfl) rfl
    (fun f fn hf hfn => by
      obtain rfl : f = 9 := Option.some.inj ((show Tryd.prog.funcNamed "loop.example/serialpair/laws.FnPacketsFromParts" = some 9 by kernel_rfl).symm.trans hf) |>.symm
      obtain rfl : fn = Tryd.f9 := (Option.some.inj (Tryd.func9.symm.trans hfn)).symm
      exact ⟨by kernel_rfl, fun j t ht => by
        rw [Tryd.params9] at ht
        rcases j with _ | _ | j <;> simp at ht <;> subst ht <;> kernel_rfl⟩)
    (by kernel_rfl)

end Go.Proofs.YtoeajbnjenceaaaDoor
