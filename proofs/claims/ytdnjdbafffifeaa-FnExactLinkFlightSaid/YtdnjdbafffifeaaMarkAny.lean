/-
  MARKS IN ROWS THAT MAY LIE ONE OVER THE OTHER: markIntS, markGotS return the next mark, and only blocks from 'base' to 'top' have turned, none of which has another shape then. Condition: at most 2^20 elements.
-/
import Derived.Test.YtdnjdbafffifeaaGotS
import Derived.Test.YtdnjdbafffifeaaInts
set_option linter.unusedVariables false
set_option linter.unusedSimpArgs false
namespace Go.Proofs.Ytdnjdbafffifeaa
open Go.ChangeShapes Go.WideShapes Go.ChangeAt Go.RowKit

/-- Only blocks from base to top have turned; each block of cells has its size and type yet. -/
structure Turn (base top : Nat) (w w' : World) : Prop where
  os : w'.os = w.os
  tape : w'.tape = w.tape
  output : w'.output = w.output
  size : w.heap.size ≤ w'.heap.size
  block : ∀ i, i < w.heap.size → (i < base ∨ top ≤ i) → w'.heap[i]? = w.heap[i]?
  shape : ∀ (g : Nat) (cs : Array Value) (t : TypeId), Blk w g t cs → ∃ cs', Blk w' g t cs' ∧ cs'.size = cs.size
section
variable {base top : Nat} {a b c w w' : World}
theorem Turn.refl (base top : Nat) (w : World) : Turn base top w w := ⟨rfl, rfl, rfl, Nat.le_refl _, fun _ _ _ => rfl, fun g cs t h => ⟨cs, h, rfl⟩⟩
theorem Turn.trans (h : Turn base top a b) (k : Turn base top b c) : Turn base top a c :=
  ⟨k.os.trans h.os, k.tape.trans h.tape, k.output.trans h.output, Nat.le_trans h.size k.size, fun i hi hn => (k.block i (Nat.lt_of_lt_of_le hi h.size) hn).trans (h.block i hi hn), fun g cs t hb => by
    obtain ⟨cs', h1, h2⟩ := h.shape g cs t hb
    obtain ⟨cs'', h3, h4⟩ := k.shape g cs' t h1
    exact ⟨cs'', h3, h4.trans h2⟩⟩
theorem Turn.of_below (hb : Below w.heap.size w w') : Turn base top w w' :=
  ⟨hb.os, hb.tape, hb.output, hb.size, fun i hi _ => hb.block i hi, fun g cs t h => ⟨cs, h.below hb h.lt, rfl⟩⟩
theorem Turn.below (h : Turn base top a b) (hb : Below b.heap.size b c) : Turn base top a c := h.trans (Turn.of_below hb)
theorem Turn.set (h : Turn base top a b) {g0 i0 : Nat} (h1 : base ≤ g0) (h2 : g0 < top) (u : Value) : Turn base top a (b.setCell ⟨g0, i0, none⟩ u) := by
  refine h.trans ⟨rfl, rfl, rfl, by simp [World.setCell], fun i hi hn => Below.heap_setCell b ⟨g0, i0, none⟩ u i (by rintro rfl; omega), fun g cs t hb => ?_⟩
  by_cases e : g = g0
  · subst e
    exact ⟨_, hb.set_ i0 u, by simp⟩
  · exact ⟨cs, hb.far e u, rfl⟩
/-- A row of n elements in a block from base to top. -/
def RowIn (w : World) (base top size : Nat) (A : Option Addr) (n : Nat) : Prop := n = 0 ∨ ∃ (g : Nat) (cs : Array Value) (t : TypeId), A = some ⟨g, 0, none⟩ ∧ base ≤ g ∧ g < top ∧ Blk w g t cs ∧ n * size ≤ cs.size
theorem RowIn.turn {size n : Nat} {A : Option Addr} (h : RowIn w base top size A n) (k : Turn base top w w') : RowIn w' base top size A n := by
  rcases h with h | ⟨g, cs, t, e, h1, h2, h3, h4⟩
  · exact .inl h
  · obtain ⟨cs', h5, h6⟩ := k.shape g cs t h3
    exact .inr ⟨g, cs', t, e, h1, h2, h5, by omega⟩
theorem RowIn.of_own {size n c' : Nat} {A : Option Addr} {e : TypeId} {xs : List Value} (h : w.ownsRow base e size (.slice A n c') n xs) (ht : w.heap.size ≤ top) : RowIn w base top size A n := by
  rcases h.2 with ⟨_, h0⟩ | ⟨g, cap, cur, hv, hb, hg, h1, _, h2, _⟩
  · exact .inl h0
  · injection hv with hA
    have hB : Blk w g e cur := hg
    exact .inr ⟨g, cur, e, hA, hb, Nat.lt_of_lt_of_le hB.lt ht, hB, by rw [h2]; exact Nat.mul_le_mul_right _ h1⟩
end
set_option maxHeartbeats 2000000 in
theorem markIntS_turn (base top : Nat) (A : Option Addr) (n c : Nat) (q : Int) (w : World) (h : RowIn w base top 1 A n) (hn : n ≤ 1099511627776) (hq0 : 0 ≤ q) (hq1 : q ≤ 1099511627776) :
    Calls Try.prog 12 #[.slice A n c, .int .i64 q] w fun e w' => e = .returned (.int .i64 (q + n)) ∧ Turn base top w w' := by
  go_enter Try.func12, Try.ntmps12
  go_wp2
  go_loopw [1, 5] (fun x i wr => ∃ (k : Nat) (z : Int), k ≤ n ∧ i = .int .i64 k ∧ x = .int .i64 z ∧ 0 ≤ z ∧ z ≤ 1099511627776 + k ∧ Hid (z = q + k) ∧ Turn base top w wr) (fun _ i _ => n - (intOf i).toNat)
  case atStart => exact ⟨0, q, Nat.zero_le _, rfl, rfl, by omega, by omega, by show _ = _; simp, Turn.refl _ _ _⟩
  case round =>
    obtain ⟨k, z, hk, rfl, rfl, hz0, hz1, HZ, hT⟩ := hrel
    by_cases hlt : k < n
    · rcases h.turn hT with h0 | ⟨g, cs, t, rfl, hg1, hg2, hB, hs⟩
      · omega
      have hc : wr.cell? ⟨g, k, none⟩ = some (cs[k]'(by omega)) := (hB.cell k).trans (Array.getElem?_eq_getElem (by omega))
      have hf := hB.frozen k
      generalize cs[k]'(by omega) = u at *
      have HT := Lib.hid (hT.set (i0 := k) hg1 hg2 (.int .i64 z))
      clear h hT hB hs
      go_wp2
      go_roundw
      case rel => exact ⟨k + 1, z + 1, by omega, by go_num, rfl, by omega, by omega, by show _ = _; have := HZ.out; omega, HT.out⟩
      case measure => simp [intOf]; omega
    · obtain rfl : k = n := by omega
      go_wp2
      go_ret
      exact ⟨ret_int HZ.out, hT⟩
set_option maxHeartbeats 2000000 in
theorem markGotS_turn (base top : Nat) (A : Option Addr) (n c : Nat) (q : Int) (w : World) (h : RowIn w base top 2 A n) (hn : n ≤ 1048576) (hq0 : 0 ≤ q) (hq1 : q ≤ 1099511627776) :
    Calls Try.prog 69 #[.slice A n c, .int .i64 q] w fun e w' => e = .returned (.int .i64 (q + 2 * n)) ∧ Turn base top w w' := by
  go_enter Try.func69, Try.ntmps69
  go_wp2
  go_loopw [1, 5] (fun x i wr => ∃ (k : Nat) (z : Int), k ≤ n ∧ i = .int .i64 k ∧ x = .int .i64 z ∧ 0 ≤ z ∧ z ≤ 1099511627776 + 2 * k ∧ Hid (z = q + 2 * k) ∧ Turn base top w wr) (fun _ i _ => n - (intOf i).toNat)
  case atStart => exact ⟨0, q, Nat.zero_le _, rfl, rfl, by omega, by omega, by show _ = _; simp, Turn.refl _ _ _⟩
  case round =>
    obtain ⟨k, z, hk, rfl, rfl, hz0, hz1, HZ, hT⟩ := hrel
    by_cases hlt : k < n
    · rcases h.turn hT with h0 | ⟨g, cs, t, rfl, hg1, hg2, hB, hs⟩
      · omega
      have hc : wr.cell? ⟨g, k * 2, none⟩ = some (cs[k * 2]'(by omega)) := (hB.cell (k * 2)).trans (Array.getElem?_eq_getElem (by omega))
      have hc' : wr.cell? ⟨g, k * 2 + 1, none⟩ = some (cs[k * 2 + 1]'(by omega)) := (hB.cell (k * 2 + 1)).trans (Array.getElem?_eq_getElem (by omega))
      have hf := hB.frozen (k * 2)
      have hf' := hB.frozen (k * 2 + 1)
      generalize cs[k * 2]'(by omega) = u at *
      generalize cs[k * 2 + 1]'(by omega) = u' at *
      have HT := Lib.hid ((hT.set (i0 := k * 2) hg1 hg2 (.int .i64 z)).set (i0 := k * 2 + 1) hg1 hg2 (.int .i64 (z + 1)))
      clear h hT hB hs
      go_wp2
      go_roundw
      case rel => exact ⟨k + 1, z + 1 + 1, by omega, by go_num, rfl, by omega, by omega, by show _ = _; have := HZ.out; omega, HT.out⟩
      case measure => simp [intOf]; omega
    · obtain rfl : k = n := by omega
      go_wp2
      go_ret
      exact ⟨ret_int HZ.out, hT⟩
end Go.Proofs.Ytdnjdbafffifeaa
