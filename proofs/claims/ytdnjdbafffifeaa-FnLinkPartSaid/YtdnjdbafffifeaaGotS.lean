/-
  HELPERS OF THE LAWS ON LISTS OF BYTES THAT CAME: toGot, toGotS, eqGot, eqGotS, markGotS, heldGotS. Condition: at most 2^20 elements.
-/
import Derived.Test.YtdnjdbafffifeaaGot
set_option linter.unusedVariables false
set_option linter.unusedSimpArgs false
namespace Go.Proofs.Ytdnjdbafffifeaa
open Go.ChangeShapes Go.WideShapes Go.ChangeAt Go.RowKit

theorem got_info : (Try.prog.info? 64).map (fun i => (i.zero, i.size, i.bytes)) = some (some (.agg #[.int .i64 0, .int .i64 0]), 2, 16) := by kernel_rfl
theorem made_two (z : Value) (m : Nat) : (madeCells #[z, z] m).toList = List.replicate m z := by
  unfold madeCells
  apply List.ext_getElem (by simp)
  intro i h1 h2
  rcases Nat.mod_two_eq_zero_or_one i with h | h <;> simp [h]
theorem own_cell2 {w : World} {base g n c : Nat} {e : TypeId} {ys : List Value} (h : w.ownsRow base e 2 (.slice (some ⟨g, 0, none⟩) n c) n ys) {j : Nat} (hj : j < n * 2) : ∃ u, ys[j]? = some u ∧ w.cell? ⟨g, j, none⟩ = some u := by
  have hl := h.1
  have hy : ys[j]? = some (ys[j]'(by omega)) := List.getElem?_eq_getElem (by omega)
  exact ⟨_, hy, (h.cellAt j hj).trans hy⟩
theorem own_lift_ {w0 w : World} {base n size : Nat} {e : TypeId} {v : Value} {xs : List Value} (_h0 : w0.ownsRow base e size v n xs) (h : w.ownsRow base e size v n xs) : w.ownsRow base e size v n xs := h
theorem own_below2 {w w' : World} {base n : Nat} {e : TypeId} {v : Value} {ys : List Value} (h : w.ownsRow base e 2 v n ys) (hb : Below w.heap.size w w') : w'.ownsRow base e 2 v n ys :=
  h.kept (row := none) ⟨hb.os, hb.tape, hb.output, hb.size, fun k hk _ => hb.block k hk⟩ (by cases hv : v.ownBlock <;> simp)
theorem own_form2 {w : World} {base n : Nat} {e : TypeId} {v : Value} {ys : List Value} (h : w.ownsRow base e 2 v n ys) : ∃ A c, v = .slice A n c ∧ n ≤ c ∧ c ≤ maxLen := by
  rcases h.2 with ⟨rfl, h0⟩ | ⟨g, cap, cur, rfl, _, _, h1, h2, _⟩
  · subst h0
    have h3 := h.1
    simp at h3
    subst h3
    exact ⟨none, 0, rfl, Nat.le_refl _, by unfold maxLen; omega⟩
  · exact ⟨_, _, rfl, h1, h2⟩
/-- The first k of gs, then zeros. -/
def filledG (gs : List (Int × Int)) (k n : Nat) : List Value := gotCells (gs.take k) ++ List.replicate ((n - k) * 2) (Value.int .i64 0)
theorem filledG_zero (gs : List (Int × Int)) (n : Nat) : filledG gs 0 n = List.replicate (n * 2) (Value.int .i64 0) := by simp [filledG, gotCells]
theorem filledG_all {gs : List (Int × Int)} {n : Nat} (h : gs.length = n) : filledG gs n n = gotCells gs := by simp [filledG, ← h]
theorem filledG_set {gs : List (Int × Int)} {k n : Nat} {x y : Int} (hn : gs.length = n) (hk : k < n) (hx : gs[k]? = some (x, y)) : ((filledG gs k n).set (k * 2) (Value.int .i64 x)).set (k * 2 + 1) (Value.int .i64 y) = filledG gs (k + 1) n := by
  have hl : (gotCells (gs.take k)).length = k * 2 := by rw [gotCells_length, List.length_take]; congr 1; omega
  obtain ⟨r, hr⟩ : ∃ r, n - k = r + 1 := ⟨n - k - 1, by omega⟩
  unfold filledG
  rw [List.take_add_one, hx, hr, show n - (k + 1) = r from by omega, List.set_append_right _ _ (by omega), hl, Nat.sub_self, show (r + 1) * 2 = r * 2 + 1 + 1 from by omega, List.replicate_succ, List.replicate_succ, List.set_cons_zero,
    List.set_append_right _ _ (by omega), hl, show k * 2 + 1 - k * 2 = 1 from by omega, List.set_cons_succ, List.set_cons_zero]
  simp [gotCells]
theorem toGot_any (x y : Int) (w : World) : Calls Try.prog 83 #[.agg #[.int .i64 x, .int .i64 y]] w fun e w' => e = .returned (.agg #[.int .i64 x, .int .i64 y]) ∧ Below w.heap.size w w' := by
  go_enter Try.func83, Try.ntmps83
  go_wp2
  exact bodyPost_ret (by simp [results, Try.results83, go_sem, *]; repeat (first | exact rfl | refine And.intro ?_ ?_)) rfl ⟨rfl, (by repeat (first | (with_reducible exact b_refl _) | (with_reducible refine b_alloc ?_ _) | (with_reducible refine b_drew ?_) | (with_reducible refine b_drewN ?_ _) | (with_reducible refine b_set ?_ ?_ _) | (with_reducible refine b_trans ?_ (by assumption)) | (with_reducible refine b_only ?_ (by assumption) ?_) | omega | (focus (simp; done)) | (focus (simp; omega))))⟩
set_option maxHeartbeats 2000000 in
theorem toGotS_any (A : Option Addr) (n c : Nat) (gs : List (Int × Int)) (w : World) (hx : Gots w A n gs) (hn : n ≤ 1048576) :
    Calls Try.prog 67 #[.slice A n c] w fun e w' => ∃ (A' : Option Addr) (c' : Nat), e = .returned (.slice A' n c') ∧ w'.ownsRow w.heap.size 64 2 (.slice A' n c') n (gotCells gs) ∧ Below w.heap.size w w' := by
  obtain ⟨i0, hi0, hz0, hz1, hz2⟩ := info_parts got_info
  have HX := Lib.hid hx.len
  go_enter Try.func67, Try.ntmps67
  go_wp2_with (at_make; refine wpList_make_full _ rfl _ _ 41 rfl w.heap.size 64 i0 (.agg #[.int .i64 0, .int .i64 0]) 2 Try.underlying41 hi0 hz0 hz1 .i64 .i64 n n n rfl rfl rfl rfl (by rw [hz2]; omega) (by unfold maxLen; omega) (Nat.le_refl _) ?_; intro w1 hown hgrow)
  have hb1 : Below w.heap.size w w1 := (b_refl w).grown hgrow (Nat.le_refl _) (fun k hk => by cases hk)
  rw [show (Value.agg #[Value.int .i64 0, Value.int .i64 0]).cells = #[Value.int .i64 0, Value.int .i64 0] from rfl, made_two, ← filledG_zero gs n] at hown
  clear hgrow
  go_loopw [4] (fun i wr => ∃ k : Nat, k ≤ n ∧ i = .int .i64 k ∧ wr.ownsRow w.heap.size 64 2 (.slice (some ⟨w.heap.size, 0, none⟩) n n) n (filledG gs k n) ∧ Below w.heap.size w wr) (fun i _ => n - (intOf i).toNat)
  case atStart => exact ⟨0, Nat.zero_le _, rfl, hown, hb1⟩
  case round =>
    obtain ⟨k, hk, rfl, hownr, hbr⟩ := hrel
    by_cases hlt : k < n
    · obtain ⟨b, o, x, y, rfl, hb, ex, hc0, hc1⟩ := hx.at_ hlt
      have c0 := (hbr.cell (p := ⟨b, o + k * 2, none⟩) hb).trans hc0
      have c1 := (hbr.cell (p := ⟨b, o + k * 2 + 1, none⟩) hb).trans hc1
      have hl : w.heap.size < wr.heap.size := (hownr.lt w.heap.size rfl).2
      go_wp2_with fail
      (with_reducible refine (toGot_any x y _).mono ?_); rintro e w2 ⟨rfl, hb2⟩; have hz2 := hb2.size; (try simp at hz2)
      have hown2 := own_below2 hownr hb2
      obtain ⟨u, hu, hcu⟩ := own_cell2 hown2 (j := k * 2) (by omega)
      obtain ⟨u', hu', hcu'⟩ := own_cell2 hown2 (j := k * 2 + 1) (by omega)
      have hfu := hown2.frozenAt (k * 2)
      have hfu' := hown2.frozenAt (k * 2 + 1)
      have hst := ((hown2.stored (k * 2) (.int .i64 x)).1.stored (k * 2 + 1) (.int .i64 y)).1
      rw [filledG_set HX.out hlt ex] at hst
      have HS := Lib.hid hst
      have HB := Lib.hid (b_set (b_set (b_trans hbr hb2) (p := ⟨w.heap.size, k * 2, none⟩) (Nat.le_refl _) (.int .i64 x)) (p := ⟨w.heap.size, k * 2 + 1, none⟩) (Nat.le_refl _) (.int .i64 y))
      clear hu hu' ex hownr hbr hst hc0 hc1 hown2
      go_wp2
      go_roundw
      case rel => exact ⟨k + 1, by omega, by go_num, HS.out, HB.out⟩
      case measure => simp [intOf]; omega
    · obtain rfl : k = n := by omega
      rw [filledG_all HX.out] at hownr
      go_wp2
      go_ret
      exact ⟨_, _, rfl, hownr, hbr⟩
theorem eqGot_same (x y : Int) (w : World) : Calls Try.prog 84 #[.agg #[.int .i64 x, .int .i64 y], .agg #[.int .i64 x, .int .i64 y]] w fun e w' => e = .returned (.bool true) ∧ Below w.heap.size w w' := by
  go_enter Try.func84, Try.ntmps84
  go_wp2
  go_ret
  exact ⟨rfl, (by repeat (first | (with_reducible exact b_refl _) | (with_reducible refine b_alloc ?_ _) | (with_reducible refine b_drew ?_) | (with_reducible refine b_drewN ?_ _) | (with_reducible refine b_set ?_ ?_ _) | (with_reducible refine b_trans ?_ (by assumption)) | (with_reducible refine b_only ?_ (by assumption) ?_) | omega | (focus (simp; done)) | (focus (simp; omega))))⟩
set_option maxHeartbeats 2000000 in
theorem eqGotS_same (A B : Option Addr) (n c d : Nat) (gs : List (Int × Int)) (w : World) (hx : Gots w A n gs) (hy : Gots w B n gs) (hn : n ≤ 1048576) :
    Calls Try.prog 68 #[.slice A n c, .slice B n d] w fun e w' => e = .returned (.bool true) ∧ Below w.heap.size w w' := by
  go_enter Try.func68, Try.ntmps68
  go_wp2
  go_loopw [5] (fun i wr => ∃ k : Nat, k ≤ n ∧ i = .int .i64 k ∧ Below w.heap.size w wr) (fun i _ => n - (intOf i).toNat)
  case atStart => exact ⟨0, Nat.zero_le _, rfl, (by repeat (first | (with_reducible exact b_refl _) | (with_reducible refine b_alloc ?_ _) | (with_reducible refine b_drew ?_) | (with_reducible refine b_drewN ?_ _) | (with_reducible refine b_set ?_ ?_ _) | (with_reducible refine b_trans ?_ (by assumption)) | (with_reducible refine b_only ?_ (by assumption) ?_) | omega | (focus (simp; done)) | (focus (simp; omega))))⟩
  case round =>
    obtain ⟨k, hk, rfl, hbr⟩ := hrel
    by_cases hlt : k < n
    · obtain ⟨b, o, x, y, rfl, hb, ex, hc0, hc1⟩ := hx.at_ hlt
      obtain ⟨b', o', x', y', rfl, hb', ey, hd0, hd1⟩ := hy.at_ hlt
      rw [ex] at ey
      injection ey with ey
      injection ey with e1 e2
      subst e1; subst e2
      have c0 := (hbr.cell (p := ⟨b, o + k * 2, none⟩) hb).trans hc0
      have c1 := (hbr.cell (p := ⟨b, o + k * 2 + 1, none⟩) hb).trans hc1
      have d0 := (hbr.cell (p := ⟨b', o' + k * 2, none⟩) hb').trans hd0
      have d1 := (hbr.cell (p := ⟨b', o' + k * 2 + 1, none⟩) hb').trans hd1
      have hsz := hbr.size
      have hki : (0 : Int) ≤ (k : Int) := by omega
      have hki2 : (k : Int) < (n : Int) := by omega
      clear ex hc0 hc1 hd0 hd1
      go_wp2_with fail
      first | (go_region_held3 (fun w' => w'.cell? ⟨b, o + k * 2, none⟩ = some (.int .i64 x) ∧ w'.cell? ⟨b, o + k * 2 + 1, none⟩ = some (.int .i64 y) ∧ w'.cell? ⟨b', o' + k * 2, none⟩ = some (.int .i64 x) ∧ w'.cell? ⟨b', o' + k * 2 + 1, none⟩ = some (.int .i64 y)) (first | (go_simp; done) | (go_keep; done)) (first | (go_at_call 84; go_must ((with_reducible refine (eqGot_same x y _).mono ?_); rintro e w1 ⟨rfl, hb1⟩; have hz1 := hb1.size; (try simp at hz1); have f0 := (hb1.cell (p := ⟨b, o + k * 2, none⟩) (by simp; omega)).trans c0; have f1 := (hb1.cell (p := ⟨b, o + k * 2 + 1, none⟩) (by simp; omega)).trans c1; have f2 := (hb1.cell (p := ⟨b', o' + k * 2, none⟩) (by simp; omega)).trans d0; have f3 := (hb1.cell (p := ⟨b', o' + k * 2 + 1, none⟩) (by simp; omega)).trans d1)))) | fail
      go_wp2
      go_roundw
      case rel => exact ⟨k + 1, by omega, by go_num, (by repeat (first | (with_reducible exact b_refl _) | (with_reducible refine b_alloc ?_ _) | (with_reducible refine b_drew ?_) | (with_reducible refine b_drewN ?_ _) | (with_reducible refine b_set ?_ ?_ _) | (with_reducible refine b_trans ?_ (by assumption)) | (with_reducible refine b_only ?_ (by assumption) ?_) | omega | (focus (simp; done)) | (focus (simp; omega))))⟩
      case measure => simp [intOf]; omega
    · obtain rfl : k = n := by omega
      go_wp2
      go_ret
      exact ⟨rfl, hbr⟩
set_option maxHeartbeats 2000000 in
theorem markGotS_any (base : Nat) (A : Option Addr) (n c : Nat) (ys : List Value) (q : Int) (w : World) (hy : w.ownsRow base 64 2 (.slice A n c) n ys) (hn : n ≤ 1048576) (hq0 : 0 ≤ q) (hq1 : q ≤ 1099511627776) :
    Calls Try.prog 69 #[.slice A n c, .int .i64 q] w fun e w' => e = .returned (.int .i64 (q + 2 * n)) ∧ w'.ownsRow base 64 2 (.slice A n c) n ((marks q (n * 2)).map (Value.int .i64)) ∧ w.grownBy w' (Value.slice A n c).ownBlock := by
  have HY := Lib.hid hy.1
  go_enter Try.func69, Try.ntmps69
  go_wp2
  go_loopw [1, 5] (fun x i wr => ∃ (k : Nat) (z : Int), k ≤ n ∧ i = .int .i64 k ∧ x = .int .i64 z ∧ 0 ≤ z ∧ z ≤ 1099511627776 + 2 * k ∧ Hid (z = q + 2 * k) ∧ wr.ownsRow base 64 2 (.slice A n c) n (marked q ys (k * 2)) ∧ w.grownBy wr (Value.slice A n c).ownBlock) (fun _ i _ => n - (intOf i).toNat)
  case atStart => exact ⟨0, q, Nat.zero_le _, rfl, rfl, by omega, by omega, by show _ = _; simp, by rw [Nat.zero_mul, marked_zero]; exact hy, World.grownBy.refl _ _⟩
  case round =>
    obtain ⟨k, z, hk, rfl, rfl, hz0, hz1, HZ, hownr, hgr⟩ := hrel
    by_cases hlt : k < n
    · obtain ⟨g, cap, hv, _, _⟩ := hownr.form (by omega)
      injection hv with hA _ hC
      subst hA
      subst hC
      obtain ⟨u, hu, hcu⟩ := own_cell2 hownr (j := k * 2) (by omega)
      obtain ⟨u', hu', hcu'⟩ := own_cell2 hownr (j := k * 2 + 1) (by omega)
      have hfu := hownr.frozenAt (k * 2)
      have hfu' := hownr.frozenAt (k * 2 + 1)
      have hst := ((hownr.stored (k * 2) (.int .i64 z)).1.stored (k * 2 + 1) (.int .i64 (z + 1))).1
      have e1 : z = q + ((k * 2 : Nat) : Int) := by have := HZ.out; omega
      have e2 : z + 1 = q + ((k * 2 + 1 : Nat) : Int) := by have := HZ.out; omega
      rw [e2] at hst
      rw [e1] at hst
      rw [marked_set q HY.out (by omega), marked_set q HY.out (by omega), show k * 2 + 1 + 1 = (k + 1) * 2 from by omega, ← e2, ← e1] at hst
      have HS := Lib.hid hst
      have HB := Lib.hid (only_setCell (g := g) (only_setCell (g := g) hgr (p := ⟨g, k * 2, none⟩) (.inl rfl) (.int .i64 z)) (p := ⟨g, k * 2 + 1, none⟩) (.inl rfl) (.int .i64 (z + 1)))
      clear hu hu' hownr hgr hst hy e1 e2
      go_wp2
      go_roundw
      case rel => exact ⟨k + 1, z + 1 + 1, by omega, by go_num, rfl, by omega, by omega, by show _ = _; have := HZ.out; omega, HS.out, HB.out⟩
      case measure => simp [intOf]; omega
    · obtain rfl : k = n := by omega
      rw [marked_all q HY.out] at hownr
      go_wp2
      go_ret
      exact ⟨ret_int HZ.out, hownr, hgr⟩
theorem szGotS_any (A : Option Addr) (n c : Nat) (l : Int) (w : World) (hn : n ≤ 9223372036854775807) (h0 : 0 ≤ l) (h1 : l ≤ 1048576) : Calls Try.prog 66 #[.slice A n c, .int .i64 l] w fun e w' => e = .returned (.int .i64 (if (n : Int) ≤ l then l - n else -1)) ∧ w = w' := by
  by_cases h : (n : Int) ≤ l
  · rw [if_pos h]
    go_enter Try.func66, Try.ntmps66
    go_wp2
    go_ret
    exact ⟨rfl, rfl⟩
  · rw [if_neg h]
    have h2 : l - n < 0 := by omega
    clear h
    go_enter Try.func66, Try.ntmps66
    go_wp2
    go_ret
    exact ⟨rfl, rfl⟩
theorem szIntS_any (A : Option Addr) (n c : Nat) (l : Int) (w : World) (hn : n ≤ 9223372036854775807) (h0 : 0 ≤ l) (h1 : l ≤ 1048576) : Calls Try.prog 26 #[.slice A n c, .int .i64 l] w fun e w' => e = .returned (.int .i64 (if (n : Int) ≤ l then l - n else -1)) ∧ w = w' := by
  by_cases h : (n : Int) ≤ l
  · rw [if_pos h]
    go_enter Try.func26, Try.ntmps26
    go_wp2
    go_ret
    exact ⟨rfl, rfl⟩
  · rw [if_neg h]
    have h2 : l - n < 0 := by omega
    clear h
    go_enter Try.func26, Try.ntmps26
    go_wp2
    go_ret
    exact ⟨rfl, rfl⟩
end Go.Proofs.Ytdnjdbafffifeaa
