/-
  LISTS OF TRUTHS IN MEMORY, and the helpers of the laws on them: eqBoolS, sameBools, markBoolS, heldBoolS. Condition: at most 2^40 elements.
-/
import Derived.Test.YtgnoceofabkfcaaInts
set_option linter.unusedVariables false
set_option linter.unusedSimpArgs false
namespace Go.Proofs.Ytgnoceofabkfcaa
open Go.ChangeShapes Go.WideShapes Go.ChangeAt Go.RowKit

theorem bool_info : (Try.prog.info? 4).map (fun i => (i.zero, i.size, i.bytes)) = some (some (.bool false), 1, 1) := by kernel_rfl

/-- The slice '.slice A n c' holds the integers xs. -/
def Bools (w : World) (A : Option Addr) (n : Nat) (xs : List Bool) : Prop := Reads w w.heap.size 1 A n (xs.map Value.bool)
section
variable {w w' : World} {A : Option Addr} {n : Nat} {xs : List Bool}
theorem Bools.len (h : Bools w A n xs) : xs.length = n := by simpa using h.1
theorem Bools.nil : Bools w none 0 [] := Reads.none_
theorem Bools.below (h : Bools w A n xs) (hb : Below w.heap.size w w') : Bools w' A n xs := (Reads.below h hb).more hb.size
theorem Bools.alloc (h : Bools w A n xs) (o : Obj) : Bools (w.alloc o) A n xs := h.below (b_alloc (b_refl _) _)
theorem Bools.drewN (h : Bools w A n xs) (k : Nat) : Bools (w.drewN k) A n xs := h
theorem Bools.drew (h : Bools w A n xs) : Bools w.drew A n xs := h
theorem Bools.at_ {k : Nat} (h : Bools w A n xs) (hk : k < n) : ∃ b o x, A = some ⟨b, o, none⟩ ∧ b < w.heap.size ∧ xs[k]? = some x ∧ w.cell? ⟨b, o + k, none⟩ = some (.bool x) := by
  obtain ⟨b, o, u, hA, hb, hu, hc⟩ := Reads.at_ h hk
  simp only [List.getElem?_map, Option.map_eq_some_iff] at hu
  obtain ⟨x, hx, rfl⟩ := hu
  exact ⟨b, o, x, hA, hb, hx, hc⟩
theorem Bools.of_own {base c : Nat} (h : w.ownsRow base 4 1 (.slice A n c) n (xs.map Value.bool)) : Bools w A n xs := Reads.of_own h
end
theorem btake_step {xs ys : List Bool} {k : Nat} {x : Bool} (h : xs.take k = ys.take k) (hx : xs[k]? = some x) (hy : ys[k]? = some x) : xs.take (k + 1) = ys.take (k + 1) := by
  rw [List.take_add_one, List.take_add_one, h, hx, hy]
theorem btake_ne {xs ys : List Bool} {k : Nat} {x y : Bool} (hx : xs[k]? = some x) (hy : ys[k]? = some y) (hne : x ≠ y) : decide (xs = ys) = false := by
  simp only [decide_eq_false_iff_not]
  rintro rfl
  rw [hx] at hy
  injection hy with hy
  exact hne hy

/-- The truths that markBoolS writes. -/
def bmark (q : Int) : Bool := q % 3 == 0
def bmarks (k : Int) : Nat → List Bool
  | 0 => []
  | n + 1 => bmark k :: bmarks (k + 1) n
theorem bmarks_length (k : Int) (n : Nat) : (bmarks k n).length = n := by
  induction n generalizing k with
  | zero => rfl
  | succ n ih => simp [bmarks, ih]
theorem bmarks_get (k : Int) (n i : Nat) (h : i < n) : (bmarks k n)[i]? = some (bmark (k + i)) := by
  induction n generalizing k i with
  | zero => omega
  | succ n ih =>
    cases i with
    | zero => simp [bmarks]
    | succ i => simp only [bmarks, List.getElem?_cons_succ, ih (k + 1) i (by omega)]; congr 2; omega

/-- marks written as far as i. -/
def bmarked (q : Int) (ys : List Value) (i : Nat) : List Value := (bmarks q i).map Value.bool ++ ys.drop i
theorem bmarked_zero (q : Int) (ys : List Value) : bmarked q ys 0 = ys := by simp [bmarked, bmarks]
theorem bmarks_snoc (q : Int) (i : Nat) : bmarks q (i + 1) = bmarks q i ++ [bmark (q + i)] := by
  induction i generalizing q with
  | zero => simp [bmarks]
  | succ i ih =>
    rw [bmarks, ih (q + 1), bmarks]
    simp only [List.cons_append, List.cons.injEq, true_and, List.append_cancel_left_eq, and_true]
    congr 1; omega
theorem bmarked_all (q : Int) {ys : List Value} {n : Nat} (h : ys.length = n) : bmarked q ys n = (bmarks q n).map Value.bool := by simp [bmarked, ← h]
theorem bmarked_set (q : Int) {ys : List Value} {i n : Nat} (h : ys.length = n) (hi : i < n) : (bmarked q ys i).set i (Value.bool (bmark (q + i))) = bmarked q ys (i + 1) := by
  have hl : ((bmarks q i).map Value.bool).length = i := by rw [List.length_map, bmarks_length]
  unfold bmarked
  rw [bmarks_snoc, List.set_append_right _ _ (by omega), hl, Nat.sub_self, List.drop_eq_getElem_cons (by omega), List.set_cons_zero]
  simp
set_option maxHeartbeats 1000000 in
theorem markBoolS_any (base : Nat) (A : Option Addr) (n c : Nat) (ys : List Value) (q : Int) (w : World) (hy : w.ownsRow base 4 1 (.slice A n c) n ys) (hn : n ≤ 1099511627776) (hq0 : 0 ≤ q) (hq1 : q ≤ 1099511627776) :
    Calls Try.prog 25 #[.slice A n c, .int .i64 q] w fun e w' => e = .returned (.int .i64 (q + n)) ∧ w'.ownsRow base 4 1 (.slice A n c) n ((bmarks q n).map Value.bool) ∧ w.grownBy w' (Value.slice A n c).ownBlock := by
  have HY := Lib.hid hy.1
  go_enter Try.func25, Try.ntmps25
  go_wp2
  go_loopw [1, 5] (fun x i wr => ∃ k : Nat, k ≤ n ∧ i = .int .i64 k ∧ x = .int .i64 (q + k) ∧ wr.ownsRow base 4 1 (.slice A n c) n (bmarked q ys k) ∧ w.grownBy wr (Value.slice A n c).ownBlock) (fun _ i _ => n - (intOf i).toNat)
  case atStart => exact ⟨0, Nat.zero_le _, rfl, by simp, by rw [bmarked_zero]; exact hy, World.grownBy.refl _ _⟩
  case round =>
    obtain ⟨k, hk, rfl, rfl, hownr, hgr⟩ := hrel
    by_cases hlt : k < n
    · obtain ⟨g, cap, hv, _, _⟩ := hownr.form (by omega)
      injection hv with hA _ hC
      subst hA
      subst hC
      obtain ⟨u, hu, hcu⟩ := own_cell hownr hlt
      have hfu := hownr.frozenAt k
      have hst := (hownr.stored k (.bool (bmark (q + k)))).1
      rw [bmarked_set q (by have := HY.out; omega) hlt] at hst
      have HS := Lib.hid hst
      have HB := Lib.hid (only_setCell (g := g) hgr (p := ⟨g, k, none⟩) (.inl rfl) (.bool (bmark (q + k))))
      clear hu hownr hgr hst hy
      go_wp2
      go_roundw
      case rel => exact ⟨k + 1, by omega, by go_num, by go_num, HS.out, HB.out⟩
      case measure => simp [intOf]; omega
    · obtain rfl : k = n := by omega
      rw [bmarked_all q (by have := HY.out; omega)] at hownr
      go_wp2
      go_ret
      exact ⟨rfl, hownr, hgr⟩

set_option maxHeartbeats 1000000 in
theorem heldBoolS_any (A : Option Addr) (n c : Nat) (q : Int) (w : World) (hx : Bools w A n (bmarks q n)) (hn : n ≤ 1099511627776) (hq0 : 0 ≤ q) (hq1 : q ≤ 1099511627776) :
    Calls Try.prog 26 #[.slice A n c, .int .i64 q] w fun e w' => e = .returned (.int .i64 (q + n)) ∧ w = w' := by
  go_enter Try.func26, Try.ntmps26
  go_wp2
  go_loop [1, 5] (fun x i => ∃ k : Nat, k ≤ n ∧ i = .int .i64 k ∧ x = .int .i64 (q + k)) (fun _ i => n - (intOf i).toNat)
  case atStart => exact ⟨0, Nat.zero_le _, rfl, by simp⟩
  case round =>
    obtain ⟨k, hk, rfl, rfl⟩ := hrel
    by_cases hlt : k < n
    · obtain ⟨b, o, x, rfl, hb, ex, hc⟩ := hx.at_ hlt
      rw [bmarks_get q n k hlt] at ex
      injection ex with ex
      subst ex
      unfold bmark at hc
      go_wp2
      go_round
      case rel => exact ⟨k + 1, by omega, by go_num, by go_num⟩
      case measure => simp [intOf]; omega
    · obtain rfl : k = n := by omega
      go_wp2
      go_ret
      exact ⟨rfl, rfl⟩
set_option maxHeartbeats 1000000 in
theorem eqBoolS_any (A B : Option Addr) (n m c d : Nat) (xs ys : List Bool) (w : World) (hx : Bools w A n xs) (hy : Bools w B m ys) (hn : n ≤ 1099511627776) (hm : m ≤ 1099511627776) :
    Calls Try.prog 22 #[.slice A n c, .slice B m d] w fun e w' => e = .returned (.bool (decide (xs = ys))) ∧ Below w.heap.size w w' := by
  have hxl := hx.len
  have hyl := hy.len
  by_cases hnm : n = m
  · subst hnm
    have HX := Lib.hid hxl
    have HY := Lib.hid hyl
    clear hxl hyl
    go_enter Try.func22, Try.ntmps22
    go_wp2
    go_loopw [5] (fun i wr => ∃ k d : Nat, k ≤ n ∧ i = .int .i64 k ∧ wr = w.drewN d ∧ Hid (xs.take k = ys.take k)) (fun i _ => n - (intOf i).toNat)
    case atStart => exact ⟨0, 0, Nat.zero_le _, rfl, rfl, rfl⟩
    case round =>
      obtain ⟨k, q, hk, rfl, rfl, HT⟩ := hrel
      by_cases hlt : k < n
      · obtain ⟨b, o, x, rfl, hb, ex, hc⟩ := hx.at_ hlt
        obtain ⟨b', o', y, rfl, hb', ey, hc'⟩ := hy.at_ hlt
        have EX := Lib.hid ex
        have EY := Lib.hid ey
        clear ex ey
        by_cases hxy : x = y
        · subst hxy
          go_wp2_with fail
          go_quiet (fail)
          go_wp2
          go_roundw
          case rel => exact ⟨k + 1, _, by omega, by go_num, rfl, btake_step HT.out EX.out EY.out⟩
          case measure => simp [intOf]; omega
        · have hne : (x == y) = false := by simpa using hxy
          go_wp2_with fail
          go_quiet (fail)
          go_wp2
          go_ret
          exact ⟨ret_bool (btake_ne EX.out EY.out hxy).symm, (by repeat (first | (with_reducible exact b_refl _) | (with_reducible refine b_alloc ?_ _) | (with_reducible refine b_drew ?_) | (with_reducible refine b_drewN ?_ _) | (with_reducible refine b_set ?_ ?_ _) | (with_reducible refine b_trans ?_ (by assumption)) | (with_reducible refine b_only ?_ (by assumption) ?_) | omega | (focus (simp; done)) | (focus (simp; omega))))⟩
      · go_wp2
        go_ret
        have he : xs = ys := by
          have h1 := HT.out
          rwa [List.take_of_length_le (by have := HX.out; omega), List.take_of_length_le (by have := HY.out; omega)] at h1
        exact ⟨ret_bool (by simp [he]), (by repeat (first | (with_reducible exact b_refl _) | (with_reducible refine b_alloc ?_ _) | (with_reducible refine b_drew ?_) | (with_reducible refine b_drewN ?_ _) | (with_reducible refine b_set ?_ ?_ _) | (with_reducible refine b_trans ?_ (by assumption)) | (with_reducible refine b_only ?_ (by assumption) ?_) | omega | (focus (simp; done)) | (focus (simp; omega))))⟩
  · have hne : ((n : Int) == m) = false := by simp; omega
    have hd : decide (xs = ys) = false := by
      simp only [decide_eq_false_iff_not]
      rintro rfl
      omega
    rw [hd]
    go_enter Try.func22, Try.ntmps22
    go_wp2
    go_ret
    exact ⟨rfl, (by repeat (first | (with_reducible exact b_refl _) | (with_reducible refine b_alloc ?_ _) | (with_reducible refine b_drew ?_) | (with_reducible refine b_drewN ?_ _) | (with_reducible refine b_set ?_ ?_ _) | (with_reducible refine b_trans ?_ (by assumption)) | (with_reducible refine b_only ?_ (by assumption) ?_) | omega | (focus (simp; done)) | (focus (simp; omega))))⟩
set_option maxHeartbeats 1000000 in
theorem sameBools_any (A B : Option Addr) (n m c d : Nat) (xs ys : List Bool) (w : World) (hx : Bools w A n xs) (hy : Bools w B m ys) (hn : n ≤ 1099511627776) (hm : m ≤ 1099511627776) :
    Calls Try.prog 28 #[.slice A n c, .slice B m d] w fun e w' => e = .returned (.bool (decide (xs = ys))) ∧ Below w.heap.size w w' := by
  have hxl := hx.len
  have hyl := hy.len
  by_cases hnm : n = m
  · subst hnm
    have HX := Lib.hid hxl
    have HY := Lib.hid hyl
    clear hxl hyl
    go_enter Try.func28, Try.ntmps28
    go_wp2
    go_loopw [5] (fun i wr => ∃ k d : Nat, k ≤ n ∧ i = .int .i64 k ∧ wr = w.drewN d ∧ Hid (xs.take k = ys.take k)) (fun i _ => n - (intOf i).toNat)
    case atStart => exact ⟨0, 0, Nat.zero_le _, rfl, rfl, rfl⟩
    case round =>
      obtain ⟨k, q, hk, rfl, rfl, HT⟩ := hrel
      by_cases hlt : k < n
      · obtain ⟨b, o, x, rfl, hb, ex, hc⟩ := hx.at_ hlt
        obtain ⟨b', o', y, rfl, hb', ey, hc'⟩ := hy.at_ hlt
        have EX := Lib.hid ex
        have EY := Lib.hid ey
        clear ex ey
        by_cases hxy : x = y
        · subst hxy
          go_wp2_with fail
          go_quiet (fail)
          go_wp2
          go_roundw
          case rel => exact ⟨k + 1, _, by omega, by go_num, rfl, btake_step HT.out EX.out EY.out⟩
          case measure => simp [intOf]; omega
        · have hne : (x == y) = false := by simpa using hxy
          go_wp2_with fail
          go_quiet (fail)
          go_wp2
          go_ret
          exact ⟨ret_bool (btake_ne EX.out EY.out hxy).symm, (by repeat (first | (with_reducible exact b_refl _) | (with_reducible refine b_alloc ?_ _) | (with_reducible refine b_drew ?_) | (with_reducible refine b_drewN ?_ _) | (with_reducible refine b_set ?_ ?_ _) | (with_reducible refine b_trans ?_ (by assumption)) | (with_reducible refine b_only ?_ (by assumption) ?_) | omega | (focus (simp; done)) | (focus (simp; omega))))⟩
      · go_wp2
        go_ret
        have he : xs = ys := by
          have h1 := HT.out
          rwa [List.take_of_length_le (by have := HX.out; omega), List.take_of_length_le (by have := HY.out; omega)] at h1
        exact ⟨ret_bool (by simp [he]), (by repeat (first | (with_reducible exact b_refl _) | (with_reducible refine b_alloc ?_ _) | (with_reducible refine b_drew ?_) | (with_reducible refine b_drewN ?_ _) | (with_reducible refine b_set ?_ ?_ _) | (with_reducible refine b_trans ?_ (by assumption)) | (with_reducible refine b_only ?_ (by assumption) ?_) | omega | (focus (simp; done)) | (focus (simp; omega))))⟩
  · have hne : ((n : Int) == m) = false := by simp; omega
    have hd : decide (xs = ys) = false := by
      simp only [decide_eq_false_iff_not]
      rintro rfl
      omega
    rw [hd]
    go_enter Try.func28, Try.ntmps28
    go_wp2
    go_ret
    exact ⟨rfl, (by repeat (first | (with_reducible exact b_refl _) | (with_reducible refine b_alloc ?_ _) | (with_reducible refine b_drew ?_) | (with_reducible refine b_drewN ?_ _) | (with_reducible refine b_set ?_ ?_ _) | (with_reducible refine b_trans ?_ (by assumption)) | (with_reducible refine b_only ?_ (by assumption) ?_) | omega | (focus (simp; done)) | (focus (simp; omega))))⟩
end Go.Proofs.Ytgnoceofabkfcaa
