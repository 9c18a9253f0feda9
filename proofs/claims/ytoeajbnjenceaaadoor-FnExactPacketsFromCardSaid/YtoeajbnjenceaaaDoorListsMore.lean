/-
  HELPERS OF THE LAWS ON LISTS OF LISTS: szIntS, szIntSS, toIntSS, eqIntSS, markIntSS, heldIntSS.
-/
import Derived.Test.YtoeajbnjenceaaaDoorLists
set_option linter.unusedVariables false
set_option linter.unusedSimpArgs false
namespace Go.Proofs.YtoeajbnjenceaaaDoor
open Go.ChangeShapes Go.WideShapes Go.ChangeAt Go.RowKit

/-- How many integers in all. -/
def tot (xss : List (List Int)) : Nat := xss.flatten.length
theorem tot_take {xss : List (List Int)} {k : Nat} {xs : List Int} (h : xss[k]? = some xs) : tot (xss.take (k + 1)) = tot (xss.take k) + xs.length := by
  rw [List.take_add_one, h]
  simp [tot]
theorem len_le_tot {xss : List (List Int)} {k : Nat} {xs : List Int} (h : xss[k]? = some xs) : xs.length ≤ tot xss := by
  have e : xss = xss.take k ++ xs :: xss.drop (k + 1) := by
    obtain ⟨hk, hx⟩ := List.getElem?_eq_some_iff.1 h
    rw [← hx, ← List.drop_eq_getElem_cons hk, List.take_append_drop]
  rw [e]
  simp [tot]
  omega
theorem tot_take_le (xss : List (List Int)) (k : Nat) : tot (xss.take k) ≤ tot xss := by
  conv => rhs; rw [← List.take_append_drop k xss]
  simp only [tot, List.flatten_append, List.length_append]
  omega
/-- Some slices, then nil ones. -/
def padded (ts : List Sl) (k : Nat) : List Value := ts.map slv ++ List.replicate k (.slice none 0 0)
theorem padded_set {ts : List Sl} {k n : Nat} (s : Sl) (ht : ts.length = k) (hk : k < n) : (padded ts (n - k)).set k (slv s) = padded (ts ++ [s]) (n - (k + 1)) := by
  obtain ⟨r, hr⟩ : ∃ r, n - k = r + 1 := ⟨n - k - 1, by omega⟩
  unfold padded
  rw [hr, show n - (k + 1) = r from by omega, List.set_append_right _ _ (by simp; omega), List.length_map, ht, Nat.sub_self, List.replicate_succ, List.set_cons_zero]
  simp
set_option maxHeartbeats 2000000 in
theorem eqIntSS_same (A B : Option Addr) (n c d : Nat) (ss ts : List Sl) (xss : List (List Int)) (w : World) (hx : Lists w A n ss xss) (hy : Lists w B n ts xss) (hn : n ≤ 1048576) (ht : tot xss ≤ 1048576) :
    Calls Tryd.prog 13 #[.slice A n c, .slice B n d] w fun e w' => e = .returned (.bool true) ∧ Below w.heap.size w w' := by
  go_enter Tryd.func13, Tryd.ntmps13
  go_wp2
  go_loopw [5] (fun i wr => ∃ k : Nat, k ≤ n ∧ i = .int .i64 k ∧ Below w.heap.size w wr) (fun i _ => n - (intOf i).toNat)
  case atStart => exact ⟨0, Nat.zero_le _, rfl, (by repeat (first | (with_reducible exact b_refl _) | (with_reducible refine b_alloc ?_ _) | (with_reducible refine b_drew ?_) | (with_reducible refine b_drewN ?_ _) | (with_reducible refine b_set ?_ ?_ _) | (with_reducible refine b_trans ?_ (by assumption)) | (with_reducible refine b_only ?_ (by assumption) ?_) | omega | (focus (simp; done)) | (focus (simp; omega))))⟩
  case round =>
    obtain ⟨k, hk, rfl, hbr⟩ := hrel
    by_cases hlt : k < n
    · obtain ⟨b, o, A1, m, c1, xs, rfl, hb, hs, ex, hc0, hi, hmc, hcm⟩ := hx.at_ hlt
      obtain ⟨b', o', B1, m', d1, ys, rfl, hb', hs', ey, hd0, hj, _, _⟩ := hy.at_ hlt
      rw [ex] at ey
      injection ey with ey
      subst ey
      have hmm : m = m' := hi.len.symm.trans hj.len
      subst hmm
      have hm : m ≤ 1048576 := by
        have h1 := len_le_tot ex
        have h2 := hi.len
        omega
      have hc := (hbr.cell (p := ⟨b, o + k, none⟩) hb).trans hc0
      have hd := (hbr.cell (p := ⟨b', o' + k, none⟩) hb').trans hd0
      have hi2 := hi.below hbr
      have hj2 := hj.below hbr
      have hsz := hbr.size
      have hki : (0 : Int) ≤ (k : Int) := by omega
      have hki2 : (k : Int) < (n : Int) := by omega
      clear ex hs hs' hc0 hd0 hi hj
      go_wp2_with fail
      first | (go_region_held3 (fun w' => w'.cell? ⟨b, o + k, none⟩ = some (.slice A1 m c1) ∧ w'.cell? ⟨b', o' + k, none⟩ = some (.slice B1 m d1)) (first | (go_simp; done) | (go_keep; done)) (first | (go_at_call 14; go_must ((with_reducible refine (eqIntS_any A1 B1 m m c1 d1 xs xs _ (Ints.drew hi2) (Ints.drew hj2) (by omega) (by omega)).mono ?_); rintro e w1 ⟨rfl, hb1⟩; have hz1 := hb1.size; (try simp at hz1); have hc1 := (hb1.cell (p := ⟨b, o + k, none⟩) (by simp; omega)).trans hc; have hd1 := (hb1.cell (p := ⟨b', o' + k, none⟩) (by simp; omega)).trans hd)))) | fail
      go_wp2
      go_roundw
      case rel => exact ⟨k + 1, by omega, by go_num, (by repeat (first | (with_reducible exact b_refl _) | (with_reducible refine b_alloc ?_ _) | (with_reducible refine b_drew ?_) | (with_reducible refine b_drewN ?_ _) | (with_reducible refine b_set ?_ ?_ _) | (with_reducible refine b_trans ?_ (by assumption)) | (with_reducible refine b_only ?_ (by assumption) ?_) | omega | (focus (simp; done)) | (focus (simp; omega))))⟩
      case measure => simp [intOf]; omega
    · obtain rfl : k = n := by omega
      go_wp2
      go_ret
      exact ⟨rfl, hbr⟩
/-- Numbers in rows. -/
def marksSS (q : Int) : List (List Int) → List (List Int)
  | [] => []
  | xs :: r => marks q xs.length :: marksSS (q + xs.length) r
theorem marksSS_get (q : Int) {xss : List (List Int)} {k : Nat} {xs : List Int} (h : xss[k]? = some xs) : (marksSS q xss)[k]? = some (marks (q + tot (xss.take k)) xs.length) := by
  induction xss generalizing q k with
  | nil => simp at h
  | cons ys r ih =>
    cases k with
    | zero => simp at h; subst h; simp [marksSS, tot]
    | succ k =>
      simp at h
      rw [marksSS, List.getElem?_cons_succ, ih _ h]
      have e : tot ((ys :: r).take (k + 1)) = ys.length + tot (r.take k) := by simp [tot]
      rw [e]
      congr 2
      omega
theorem marksSS_len (q : Int) (xss : List (List Int)) : (marksSS q xss).length = xss.length := by
  induction xss generalizing q with
  | nil => rfl
  | cons ys r ih => simp [marksSS, ih]
/-- Marks as far as row k. -/
def mixed (q : Int) (xss : List (List Int)) (k : Nat) : List (List Int) := (marksSS q xss).take k ++ xss.drop k
theorem mixed_zero (q : Int) (xss : List (List Int)) : mixed q xss 0 = xss := by simp [mixed]
theorem mixed_all (q : Int) {xss : List (List Int)} {n : Nat} (h : xss.length = n) : mixed q xss n = marksSS q xss := by
  unfold mixed
  rw [List.take_of_length_le (by rw [marksSS_len]; omega), List.drop_eq_nil_of_le (by omega), List.append_nil]
theorem mixed_at (q : Int) {xss : List (List Int)} {k : Nat} (hk : k < xss.length) : (mixed q xss k)[k]? = xss[k]? := by
  have hl : ((marksSS q xss).take k).length = k := by rw [List.length_take, marksSS_len]; omega
  unfold mixed
  rw [List.getElem?_append_right (by omega), hl, Nat.sub_self, List.getElem?_drop, Nat.add_zero]
theorem mixed_set (q : Int) {xss : List (List Int)} {k : Nat} {xs : List Int} (h : xss[k]? = some xs) : (mixed q xss k).set k (marks (q + tot (xss.take k)) xs.length) = mixed q xss (k + 1) := by
  have hk : k < xss.length := (List.getElem?_eq_some_iff.1 h).1
  have hl : ((marksSS q xss).take k).length = k := by rw [List.length_take, marksSS_len]; omega
  unfold mixed
  rw [List.set_append_right _ _ (by omega), hl, Nat.sub_self, List.drop_eq_getElem_cons hk, List.set_cons_zero, List.take_add_one, marksSS_get q h]
  simp
theorem Owns.marked {w w' : World} {base : Nat} {ss : List Sl} {zss : List (List Int)} (h : Owns w base ss zss) {k : Nat} {s : Sl} {ys : List Int} (hs : ss[k]? = some s) (hn : w'.ownsRow base 3 1 (slv s) s.2.1 (ys.map (Value.int .i64))) (hg : w.grownBy w' (slv s).ownBlock) : Owns w' base ss (zss.set k ys) := by
  refine ⟨by rw [List.length_set]; exact h.1, fun j t xs h1 h2 => ?_, h.2.2⟩
  by_cases hjk : j = k
  · subst hjk
    rw [hs] at h1
    injection h1 with h1
    subst h1
    have hl : j < zss.length := by rw [← h.1]; exact (List.getElem?_eq_some_iff.1 hs).1
    rw [List.getElem?_set_self hl] at h2
    injection h2 with h2
    subst h2
    exact hn
  · rw [List.getElem?_set_ne (fun e => hjk e.symm)] at h2
    refine (h.2.1 j t xs h1 h2).kept hg ?_
    rcases Nat.lt_or_gt_of_ne hjk with hlt | hlt
    · rcases h.2.2 j k t s hlt h1 hs with h0 | h0
      · rw [h0]
        cases (slv t).ownBlock <;> simp
      · exact .inr (fun e => h0 e.symm)
    · exact h.2.2 k j s t hlt hs h1
set_option maxHeartbeats 2000000 in
theorem markIntSS_any (base hi : Nat) (A : Option Addr) (n c : Nat) (ss : List Sl) (xss : List (List Int)) (q : Int) (w : World) (hx : OwnLists w base (.slice A n c) n ss xss) (hn : n ≤ 1048576) (ht : tot xss ≤ 2097152) (hq0 : 0 ≤ q) (hq1 : q ≤ 4194304)
    (hhi : ∀ (k : Nat) (s : Sl) (g : Nat), ss[k]? = some s → (slv s).ownBlock = some g → g < hi) :
    Calls Tryd.prog 16 #[.slice A n c, .int .i64 q] w fun e w' => e = .returned (.int .i64 (q + tot xss)) ∧ OwnLists w' base (.slice A n c) n ss (marksSS q xss) ∧ Outside base hi w w' := by
  have HX := Lib.hid hx.len
  have HS := Lib.hid hx.slen
  have HH := Lib.hid hhi
  clear hhi
  go_enter Tryd.func16, Tryd.ntmps16
  go_wp2
  go_loopw [1, 5] (fun v i wr => ∃ (k : Nat) (z : Int), k ≤ n ∧ i = .int .i64 k ∧ v = .int .i64 z ∧ 0 ≤ z ∧ z ≤ 8388608 ∧ Hid (z = q + tot (xss.take k)) ∧ OwnLists wr base (.slice A n c) n ss (mixed q xss k) ∧ Outside base hi w wr) (fun _ i _ => n - (intOf i).toNat)
  case atStart => exact ⟨0, q, Nat.zero_le _, rfl, rfl, by omega, by omega, by show _ = _; simp [tot], by rw [mixed_zero]; exact hx, Outside.refl _ _ _⟩
  case round =>
    obtain ⟨k, z, hk, rfl, rfl, hz0, hz1, HZ, hown, hout⟩ := hrel
    by_cases hlt : k < n
    · obtain ⟨b, o, B, m, c', xs, rfl, hb, hs, ex, hc, hi', hmc, hcm⟩ := hown.read.at_ hlt
      rw [mixed_at q (by have := HX.out; omega)] at ex
      have EX := Lib.hid ex
      have ES := Lib.hid hs
      have hm : m ≤ 2097152 := by
        have h1 := len_le_tot ex
        have h2 := hi'.len
        omega
      have HM := Lib.hid hi'.len
      have ET := Lib.hid (tot_take ex)
      have EL := Lib.hid (tot_take_le xss (k + 1))
      have hrow : wr.ownsRow base 3 1 (slv (B, m, c')) m (xs.map (Value.int .i64)) := hown.2.2.1 k _ _ hs (by rw [mixed_at q (by have := HX.out; omega)]; exact ex)
      clear ex hs hi' hx
      go_wp2_with fail
      (with_reducible refine (markIntS_any base B m c' _ z _ hrow (by omega) (by omega) (by omega)).mono ?_); rintro e w1 ⟨rfl, hr1, hg1⟩
      have HO : Hid (OwnLists w1 base (.slice (some ⟨b, o, none⟩) n c) n ss (mixed q xss (k + 1))) := by
        have h1 := hown.2.marked (k := k) (s := (B, m, c')) (ys := marks (q + tot (xss.take k)) xs.length) ES.out (by have h := hr1; rw [HZ.out, ← HM.out] at h; exact (by rw [HM.out] at h ⊢; exact h)) hg1
        rw [mixed_set q EX.out] at h1
        exact ⟨hown.1.kept hg1 (own_other hown.1 hrow (by decide)), h1⟩
      have HU : Hid (Outside base hi w w1) := hout.grown hg1 (fun g hg => ⟨(hrow.lt g hg).1, HH.out k _ g ES.out hg⟩)
      clear hown hout hr1 hrow hg1
      go_wp2
      go_roundw
      case rel => exact ⟨k + 1, z + m, by omega, by go_num, rfl, by omega, by have h1 := HZ.out; have h2 := ET.out; have h3 := HM.out; have h4 := EL.out; omega, by show _ = _; have h1 := HZ.out; have h2 := ET.out; have h3 := HM.out; omega, HO.out, HU.out⟩
      case measure => simp [intOf]; omega
    · obtain rfl : k = n := by omega
      have h1 := HZ.out
      rw [List.take_of_length_le (by have := HX.out; omega)] at h1
      rw [mixed_all q HX.out] at hown
      have H1 := Lib.hid h1
      clear h1
      go_wp2
      go_ret
      exact ⟨ret_int H1.out, hown, hout⟩
set_option maxHeartbeats 1000000 in
theorem heldIntSS_any (A : Option Addr) (n c : Nat) (ss : List Sl) (xss : List (List Int)) (q : Int) (w : World) (hx : Lists w A n ss (marksSS q xss)) (hn : n ≤ 1048576) (ht : tot xss ≤ 2097152) (hq0 : 0 ≤ q) (hq1 : q ≤ 4194304) :
    Calls Tryd.prog 17 #[.slice A n c, .int .i64 q] w fun e w' => e = .returned (.int .i64 (q + tot xss)) ∧ w = w' := by
  have HX : Hid (xss.length = n) := by show _ = _; rw [← marksSS_len q]; exact hx.len
  go_enter Tryd.func17, Tryd.ntmps17
  go_wp2
  go_loop [1, 5] (fun v i => ∃ (k : Nat) (z : Int), k ≤ n ∧ i = .int .i64 k ∧ v = .int .i64 z ∧ 0 ≤ z ∧ z ≤ 8388608 ∧ Hid (z = q + tot (xss.take k))) (fun _ i => n - (intOf i).toNat)
  case atStart => exact ⟨0, q, Nat.zero_le _, rfl, rfl, by omega, by omega, by show _ = _; simp [tot]⟩
  case round =>
    obtain ⟨k, z, hk, rfl, rfl, hz0, hz1, HZ⟩ := hrel
    by_cases hlt : k < n
    · obtain ⟨b, o, B, m, c', ys, rfl, hb, hs, ey, hc, hi, hmc, hcm⟩ := hx.at_ hlt
      obtain ⟨xs, ex⟩ : ∃ xs, xss[k]? = some xs := ⟨_, List.getElem?_eq_getElem (by have := HX.out; omega)⟩
      rw [marksSS_get q ex] at ey
      injection ey with ey
      subst ey
      have hml : m = xs.length := by rw [← hi.len, marks_length]
      subst hml
      rw [← HZ.out] at hi
      have hm : xs.length ≤ 2097152 := by
        have h1 := len_le_tot ex
        omega
      have ET := Lib.hid (tot_take ex)
      have EL := Lib.hid (tot_take_le xss (k + 1))
      have hq9 : ¬ z + (xs.length : Int) < 0 := by omega
      clear ex hs
      go_wp2_with fail
      (with_reducible refine (heldIntS_any B xs.length c' z _ hi (by omega) (by omega) (by omega)).mono ?_); rintro e w1 ⟨rfl, rfl⟩
      go_wp2
      go_round
      case rel => exact ⟨k + 1, z + xs.length, by omega, by go_num, rfl, by omega, by have h1 := HZ.out; have h2 := ET.out; have h4 := EL.out; omega, by show _ = _; have h1 := HZ.out; have h2 := ET.out; omega⟩
      case measure => simp [intOf]; omega
    · obtain rfl : k = n := by omega
      have h1 := HZ.out
      rw [List.take_of_length_le (by have := HX.out; omega)] at h1
      have H1 := Lib.hid h1
      clear h1
      go_wp2
      go_ret
      exact ⟨ret_int H1.out, rfl⟩
end Go.Proofs.YtoeajbnjenceaaaDoor
