/-
  LISTS OF INTEGERS IN MEMORY, and the helpers of the laws on them: toIntS, eqIntS, markIntS, heldIntS, sameInts. Condition: at most 2^40 elements.
-/
import Derived.Test.YtdnjdbafffifeaaRows
import Derived.Test.YtdnjdbafffifeaaKit
set_option linter.unusedVariables false
set_option linter.unusedSimpArgs false
namespace Go.Proofs.Ytdnjdbafffifeaa
open Go.ChangeShapes Go.WideShapes Go.ChangeAt Go.RowKit

theorem int_info : (Try.prog.info? 3).map (fun i => (i.zero, i.size, i.bytes)) = some (some (.int .i64 0), 1, 8) := by kernel_rfl

/-- The slice '.slice A n c' holds the integers xs. -/
def Ints (w : World) (A : Option Addr) (n : Nat) (xs : List Int) : Prop := Reads w w.heap.size 1 A n (xs.map (Value.int .i64))
section
variable {w w' : World} {A : Option Addr} {n : Nat} {xs : List Int}
theorem Ints.len (h : Ints w A n xs) : xs.length = n := by simpa using h.1
theorem Ints.nil : Ints w none 0 [] := Reads.none_
theorem Ints.below (h : Ints w A n xs) (hb : Below w.heap.size w w') : Ints w' A n xs := (Reads.below h hb).more hb.size
theorem Ints.alloc (h : Ints w A n xs) (o : Obj) : Ints (w.alloc o) A n xs := h.below (b_alloc (b_refl _) _)
theorem Ints.drewN (h : Ints w A n xs) (k : Nat) : Ints (w.drewN k) A n xs := h
theorem Ints.drew (h : Ints w A n xs) : Ints w.drew A n xs := h
theorem Ints.at_ {k : Nat} (h : Ints w A n xs) (hk : k < n) : ∃ b o x, A = some ⟨b, o, none⟩ ∧ b < w.heap.size ∧ xs[k]? = some x ∧ w.cell? ⟨b, o + k, none⟩ = some (.int .i64 x) := by
  obtain ⟨b, o, u, hA, hb, hu, hc⟩ := Reads.at_ h hk
  simp only [List.getElem?_map, Option.map_eq_some_iff] at hu
  obtain ⟨x, hx, rfl⟩ := hu
  exact ⟨b, o, x, hA, hb, hx, hc⟩
theorem Ints.of_own {base c : Nat} (h : w.ownsRow base 3 1 (.slice A n c) n (xs.map (Value.int .i64))) : Ints w A n xs := Reads.of_own h
theorem own_below {base : Nat} {e : TypeId} {v : Value} {ys : List Value} (h : w.ownsRow base e 1 v n ys) (hb : Below w.heap.size w w') : w'.ownsRow base e 1 v n ys :=
  h.kept (row := none) ⟨hb.os, hb.tape, hb.output, hb.size, fun k hk _ => hb.block k hk⟩ (by cases hv : v.ownBlock <;> simp)
theorem own_form {base : Nat} {e : TypeId} {v : Value} {ys : List Value} (h : w.ownsRow base e 1 v n ys) : ∃ A c, v = .slice A n c ∧ n ≤ c ∧ c ≤ maxLen := by
  rcases h.2 with ⟨rfl, rfl⟩ | ⟨g, cap, cur, rfl, _, _, h1, h2, _⟩
  · exact ⟨none, 0, rfl, Nat.le_refl _, by unfold maxLen; omega⟩
  · exact ⟨_, _, rfl, h1, h2⟩
end
theorem take_step {xs ys : List Int} {k : Nat} {x : Int} (h : xs.take k = ys.take k) (hx : xs[k]? = some x) (hy : ys[k]? = some x) : xs.take (k + 1) = ys.take (k + 1) := by
  rw [List.take_add_one, List.take_add_one, h, hx, hy]
theorem take_ne {xs ys : List Int} {k : Nat} {x y : Int} (hx : xs[k]? = some x) (hy : ys[k]? = some y) (hne : x ≠ y) : decide (xs = ys) = false := by
  simp only [decide_eq_false_iff_not]
  rintro rfl
  rw [hx] at hy
  injection hy with hy
  exact hne hy

/-- The first k of xs, then zeros. -/
def filled (xs : List Int) (k n : Nat) : List Value := (xs.take k).map (Value.int .i64) ++ List.replicate (n - k) (Value.int .i64 0)
theorem filled_zero (xs : List Int) (n : Nat) : filled xs 0 n = List.replicate n (Value.int .i64 0) := by simp [filled]
theorem filled_all {xs : List Int} {n : Nat} (h : xs.length = n) : filled xs n n = xs.map (Value.int .i64) := by simp [filled, ← h]
theorem filled_set {xs : List Int} {k n : Nat} {x : Int} (hn : xs.length = n) (hk : k < n) (hx : xs[k]? = some x) : (filled xs k n).set k (Value.int .i64 x) = filled xs (k + 1) n := by
  have hl : ((xs.take k).map (Value.int .i64)).length = k := by simp; omega
  obtain ⟨r, hr⟩ : ∃ r, n - k = r + 1 := ⟨n - k - 1, by omega⟩
  unfold filled
  rw [List.take_add_one, hx, hr, show n - (k + 1) = r from by omega, List.set_append_right _ _ (by omega), hl, Nat.sub_self, List.replicate_succ, List.set_cons_zero]
  simp
/-- Numbers in a row. -/
def marks (k : Int) : Nat → List Int
  | 0 => []
  | n + 1 => k :: marks (k + 1) n
theorem marks_length (k : Int) (n : Nat) : (marks k n).length = n := by
  induction n generalizing k with
  | zero => rfl
  | succ n ih => simp [marks, ih]
theorem marks_get (k : Int) (n i : Nat) (h : i < n) : (marks k n)[i]? = some (k + i) := by
  induction n generalizing k i with
  | zero => omega
  | succ n ih =>
    cases i with
    | zero => simp [marks]
    | succ i => simp only [marks, List.getElem?_cons_succ, ih (k + 1) i (by omega)]; congr 1; omega
theorem own_cell {w : World} {base g n c : Nat} {e : TypeId} {ys : List Value} (h : w.ownsRow base e 1 (.slice (some ⟨g, 0, none⟩) n c) n ys) {j : Nat} (hj : j < n) : ∃ u, ys[j]? = some u ∧ w.cell? ⟨g, j, none⟩ = some u := by
  have hl := h.1
  have hy : ys[j]? = some (ys[j]'(by omega)) := List.getElem?_eq_getElem (by omega)
  exact ⟨_, hy, (h.cellAt j (by omega)).trans hy⟩

set_option maxHeartbeats 1000000 in
theorem toIntS_any (A : Option Addr) (n c : Nat) (xs : List Int) (w : World) (hx : Ints w A n xs) (hn : n ≤ 1099511627776) :
    Calls Try.prog 28 #[.slice A n c] w fun e w' => ∃ (A' : Option Addr) (c' : Nat), e = .returned (.slice A' n c') ∧ w'.ownsRow w.heap.size 3 1 (.slice A' n c') n (xs.map (Value.int .i64)) ∧ Below w.heap.size w w' := by
  obtain ⟨i0, hi0, hz0, hz1, hz2⟩ := info_parts int_info
  have HX := Lib.hid hx.len
  go_enter Try.func28, Try.ntmps28
  go_wp2_with (at_make; refine wpList_make_full _ rfl _ _ 27 rfl w.heap.size 3 i0 (.int .i64 0) 1 Try.underlying27 hi0 hz0 hz1 .i64 .i64 n n n rfl rfl rfl rfl (by rw [hz2]; omega) (by unfold maxLen; omega) (Nat.le_refl _) ?_; intro w1 hown hgrow)
  have hb1 : Below w.heap.size w w1 := (b_refl w).grown hgrow (Nat.le_refl _) (fun k hk => by cases hk)
  rw [Nat.mul_one, show (Value.int IntKind.i64 0).cells = #[Value.int IntKind.i64 0] from rfl, toList_madeCells_one, ← filled_zero xs n] at hown
  clear hgrow
  go_loopw [4] (fun i wr => ∃ k : Nat, k ≤ n ∧ i = .int .i64 k ∧ wr.ownsRow w.heap.size 3 1 (.slice (some ⟨w.heap.size, 0, none⟩) n n) n (filled xs k n) ∧ Below w.heap.size w wr) (fun i _ => n - (intOf i).toNat)
  case atStart => exact ⟨0, Nat.zero_le _, rfl, hown, hb1⟩
  case round =>
    obtain ⟨k, hk, rfl, hownr, hbr⟩ := hrel
    by_cases hlt : k < n
    · obtain ⟨b, o, x, rfl, hb, ex, hc0⟩ := hx.at_ hlt
      have hc := (hbr.cell (p := ⟨b, o + k, none⟩) hb).trans hc0
      obtain ⟨u, hu, hcu⟩ := own_cell hownr hlt
      have hfu := hownr.frozenAt k
      have hst := (hownr.stored k (.int .i64 x)).1
      rw [filled_set HX.out hlt ex] at hst
      have hbs := b_set hbr (p := ⟨w.heap.size, k, none⟩) (Nat.le_refl _) (.int .i64 x)
      clear hc0 hu ex hownr hbr
      have HS := Lib.hid hst
      have HB := Lib.hid hbs
      clear hst hbs
      go_wp2
      go_roundw
      case rel => exact ⟨k + 1, by omega, by go_num, HS.out, HB.out⟩
      case measure => simp [intOf]; omega
    · obtain rfl : k = n := by omega
      rw [filled_all HX.out] at hownr
      go_wp2
      go_ret
      exact ⟨_, _, rfl, hownr, hbr⟩

/-- marks written as far as i. -/
def marked (q : Int) (ys : List Value) (i : Nat) : List Value := (marks q i).map (Value.int .i64) ++ ys.drop i
theorem marked_zero (q : Int) (ys : List Value) : marked q ys 0 = ys := by simp [marked, marks]
theorem marks_snoc (q : Int) (i : Nat) : marks q (i + 1) = marks q i ++ [q + i] := by
  induction i generalizing q with
  | zero => simp [marks]
  | succ i ih =>
    rw [marks, ih (q + 1), marks]
    simp only [List.cons_append, List.cons.injEq, true_and, List.append_cancel_left_eq, and_true]
    omega
theorem marked_all (q : Int) {ys : List Value} {n : Nat} (h : ys.length = n) : marked q ys n = (marks q n).map (Value.int .i64) := by simp [marked, ← h]
theorem marked_set (q : Int) {ys : List Value} {i n : Nat} (h : ys.length = n) (hi : i < n) : (marked q ys i).set i (Value.int .i64 (q + i)) = marked q ys (i + 1) := by
  have hl : ((marks q i).map (Value.int .i64)).length = i := by rw [List.length_map, marks_length]
  unfold marked
  rw [marks_snoc, List.set_append_right _ _ (by omega), hl, Nat.sub_self, List.drop_eq_getElem_cons (by omega), List.set_cons_zero]
  simp
set_option maxHeartbeats 1000000 in
theorem markIntS_any (base : Nat) (A : Option Addr) (n c : Nat) (ys : List Value) (q : Int) (w : World) (hy : w.ownsRow base 3 1 (.slice A n c) n ys) (hn : n ≤ 1099511627776) (hq0 : 0 ≤ q) (hq1 : q ≤ 1099511627776) :
    Calls Try.prog 12 #[.slice A n c, .int .i64 q] w fun e w' => e = .returned (.int .i64 (q + n)) ∧ w'.ownsRow base 3 1 (.slice A n c) n ((marks q n).map (Value.int .i64)) ∧ w.grownBy w' (Value.slice A n c).ownBlock := by
  have HY := Lib.hid hy.1
  go_enter Try.func12, Try.ntmps12
  go_wp2
  go_loopw [1, 5] (fun x i wr => ∃ k : Nat, k ≤ n ∧ i = .int .i64 k ∧ x = .int .i64 (q + k) ∧ wr.ownsRow base 3 1 (.slice A n c) n (marked q ys k) ∧ w.grownBy wr (Value.slice A n c).ownBlock) (fun _ i _ => n - (intOf i).toNat)
  case atStart => exact ⟨0, Nat.zero_le _, rfl, by simp, by rw [marked_zero]; exact hy, World.grownBy.refl _ _⟩
  case round =>
    obtain ⟨k, hk, rfl, rfl, hownr, hgr⟩ := hrel
    by_cases hlt : k < n
    · obtain ⟨g, cap, hv, _, _⟩ := hownr.form (by omega)
      injection hv with hA _ hC
      subst hA
      subst hC
      obtain ⟨u, hu, hcu⟩ := own_cell hownr hlt
      have hfu := hownr.frozenAt k
      have hst := (hownr.stored k (.int .i64 (q + k))).1
      rw [marked_set q (by have := HY.out; omega) hlt] at hst
      have HS := Lib.hid hst
      have HB := Lib.hid (only_setCell (g := g) hgr (p := ⟨g, k, none⟩) (.inl rfl) (.int .i64 (q + k)))
      clear hu hownr hgr hst hy
      go_wp2
      go_roundw
      case rel => exact ⟨k + 1, by omega, by go_num, by go_num, HS.out, HB.out⟩
      case measure => simp [intOf]; omega
    · obtain rfl : k = n := by omega
      rw [marked_all q (by have := HY.out; omega)] at hownr
      go_wp2
      go_ret
      exact ⟨rfl, hownr, hgr⟩

set_option maxHeartbeats 1000000 in
theorem heldIntS_any (A : Option Addr) (n c : Nat) (q : Int) (w : World) (hx : Ints w A n (marks q n)) (hn : n ≤ 1099511627776) (hq0 : 0 ≤ q) (hq1 : q ≤ 1099511627776) :
    Calls Try.prog 13 #[.slice A n c, .int .i64 q] w fun e w' => e = .returned (.int .i64 (q + n)) ∧ w = w' := by
  go_enter Try.func13, Try.ntmps13
  go_wp2
  go_loop [1, 5] (fun x i => ∃ k : Nat, k ≤ n ∧ i = .int .i64 k ∧ x = .int .i64 (q + k)) (fun _ i => n - (intOf i).toNat)
  case atStart => exact ⟨0, Nat.zero_le _, rfl, by simp⟩
  case round =>
    obtain ⟨k, hk, rfl, rfl⟩ := hrel
    by_cases hlt : k < n
    · obtain ⟨b, o, x, rfl, hb, ex, hc⟩ := hx.at_ hlt
      rw [marks_get q n k hlt] at ex
      injection ex with ex
      subst ex
      go_wp2
      go_round
      case rel => exact ⟨k + 1, by omega, by go_num, by go_num⟩
      case measure => simp [intOf]; omega
    · obtain rfl : k = n := by omega
      go_wp2
      go_ret
      exact ⟨rfl, rfl⟩
set_option maxHeartbeats 1000000 in
theorem eqIntS_any (A B : Option Addr) (n m c d : Nat) (xs ys : List Int) (w : World) (hx : Ints w A n xs) (hy : Ints w B m ys) (hn : n ≤ 1099511627776) (hm : m ≤ 1099511627776) :
    Calls Try.prog 9 #[.slice A n c, .slice B m d] w fun e w' => e = .returned (.bool (decide (xs = ys))) ∧ Below w.heap.size w w' := by
  have hxl := hx.len
  have hyl := hy.len
  by_cases hnm : n = m
  · subst hnm
    have HX := Lib.hid hxl
    have HY := Lib.hid hyl
    clear hxl hyl
    go_enter Try.func9, Try.ntmps9
    go_wp2
    go_loopw [5] (fun i wr => ∃ k d : Nat, k ≤ n ∧ i = .int .i64 k ∧ wr = w.drewN d ∧ Hid (xs.take k = ys.take k)) (fun i _ => n - (intOf i).toNat)
    case atStart => exact ⟨0, 0, Nat.zero_le _, rfl, rfl, rfl⟩
    case round =>
      obtain ⟨k, q, hk, rfl, rfl, HT⟩ := hrel
      by_cases hlt : k < n
      · obtain ⟨b, o, x, rfl, hb, ex, hc⟩ := hx.at_ hlt
        obtain ⟨b', o', y, rfl, hb', ey, hc'⟩ := hy.at_ hlt
        have EX := Lib.hid ex
        have EY := Lib.hid ey
        clear ex ey
        by_cases hxy : x = y
        · subst hxy
          go_wp2_with fail
          go_quiet (fail)
          go_wp2
          go_roundw
          case rel => exact ⟨k + 1, _, by omega, by go_num, rfl, take_step HT.out EX.out EY.out⟩
          case measure => simp [intOf]; omega
        · have hne : (x == y) = false := by simpa using hxy
          go_wp2_with fail
          go_quiet (fail)
          go_wp2
          go_ret
          exact ⟨ret_bool (take_ne EX.out EY.out hxy).symm, (by repeat (first | (with_reducible exact b_refl _) | (with_reducible refine b_alloc ?_ _) | (with_reducible refine b_drew ?_) | (with_reducible refine b_drewN ?_ _) | (with_reducible refine b_set ?_ ?_ _) | (with_reducible refine b_trans ?_ (by assumption)) | (with_reducible refine b_only ?_ (by assumption) ?_) | omega | (focus (simp; done)) | (focus (simp; omega))))⟩
      · go_wp2
        go_ret
        have he : xs = ys := by
          have h1 := HT.out
          rwa [List.take_of_length_le (by have := HX.out; omega), List.take_of_length_le (by have := HY.out; omega)] at h1
        exact ⟨ret_bool (by simp [he]), (by repeat (first | (with_reducible exact b_refl _) | (with_reducible refine b_alloc ?_ _) | (with_reducible refine b_drew ?_) | (with_reducible refine b_drewN ?_ _) | (with_reducible refine b_set ?_ ?_ _) | (with_reducible refine b_trans ?_ (by assumption)) | (with_reducible refine b_only ?_ (by assumption) ?_) | omega | (focus (simp; done)) | (focus (simp; omega))))⟩
  · have hne : ((n : Int) == m) = false := by simp; omega
    have hd : decide (xs = ys) = false := by
      simp only [decide_eq_false_iff_not]
      rintro rfl
      omega
    rw [hd]
    go_enter Try.func9, Try.ntmps9
    go_wp2
    go_ret
    exact ⟨rfl, (by repeat (first | (with_reducible exact b_refl _) | (with_reducible refine b_alloc ?_ _) | (with_reducible refine b_drew ?_) | (with_reducible refine b_drewN ?_ _) | (with_reducible refine b_set ?_ ?_ _) | (with_reducible refine b_trans ?_ (by assumption)) | (with_reducible refine b_only ?_ (by assumption) ?_) | omega | (focus (simp; done)) | (focus (simp; omega))))⟩
end Go.Proofs.Ytdnjdbafffifeaa
