/-
  BITS, POWERS AND FORMATS OF THE REFERENCE, their shapes alone, as the checker takes them.
-/
import Derived.Test.YtdnjdbafffifeaaTyLeaf
set_option linter.unusedVariables false
set_option linter.unusedSimpArgs false
namespace Go.Proofs.Ytdnjdbafffifeaa
open Go.ChangeShapes Go.WideShapes Go.ChangeAt Go.RowKit

def GI (w : World) (e : Ending) (w' : World) : Prop := ∃ z : Int, e = .returned (.int .i64 z) ∧ Below w.heap.size w w'
def GB (w : World) (e : Ending) (w' : World) : Prop := ∃ b : Bool, e = .returned (.bool b) ∧ Below w.heap.size w w'
theorem l13Bit_w (n bit : Int) (hb : bit = 1 ∨ bit = 2 ∨ bit = 4 ∨ bit = 8) (w : World) : Calls Try.prog 75 #[.int .i64 n, .int .i64 bit] w (GB w) := by
  rcases hb with rfl | rfl | rfl | rfl <;> (go_enter Try.func75, Try.ntmps75; go_wp2; go_ret; exact ⟨_, rfl, (by repeat (first | (with_reducible exact b_refl _) | (with_reducible refine b_alloc ?_ _) | (with_reducible refine b_drew ?_) | (with_reducible refine b_drewN ?_ _) | (with_reducible refine b_set ?_ ?_ _) | (with_reducible refine b_trans ?_ (by assumption)) | (with_reducible refine b_only ?_ (by assumption) ?_) | omega | (focus (simp; done)) | (focus (simp; omega))))⟩)
theorem l1Power_w (n : Int) (hn : n ≤ 8) (w : World) : Calls Try.prog 112 #[.int .i64 n] w fun e w' => ∃ z : Int, e = .returned (.int .i64 z) ∧ ¬ z = 0 ∧ Below w.heap.size w w' := by
  go_enter Try.func112, Try.ntmps112
  go_wp2
  go_loop [3, 4] (fun v i => ∃ (k : Nat) (z : Int), k ≤ n.toNat ∧ i = .int .i64 k ∧ v = .int .i64 z ∧ 1 ≤ z ∧ z ≤ 256 ∧ Hid (z ≤ ((2 ^ k : Nat) : Int))) (fun _ i => n.toNat - (intOf i).toNat)
  case atStart => exact ⟨0, 1, Nat.zero_le _, rfl, rfl, by omega, by omega, by show _ ≤ _; simp⟩
  case round =>
    obtain ⟨k, z, hk, rfl, rfl, h1, h2, HZ⟩ := hrel
    by_cases hlt : (k : Int) < n
    · have h128 : (2 : Nat) ^ k ≤ 2 ^ 7 := Nat.pow_le_pow_right (by omega) (by omega)
      have hz : z ≤ 128 := by have := HZ.out; omega
      have HN : Hid (2 * z ≤ ((2 ^ (k + 1) : Nat) : Int)) := by show _ ≤ _; have := HZ.out; rw [Nat.pow_succ]; omega
      clear h128
      go_wp2
      go_round
      case rel => exact ⟨k + 1, 2 * z, by omega, by go_num, by go_num, by omega, by omega, HN.out⟩
      case measure => simp [intOf]; omega
    · go_wp2
      go_ret
      exact ⟨z, rfl, by omega, b_refl _⟩
theorem l16Low_w (b p s n : Int) (hb : b ≤ 8) (w : World) : Calls Try.prog 100 #[.agg #[.int .i64 b, .int .i64 p, .int .i64 s], .int .i64 n] w (GI w) := by
  go_enter Try.func100, Try.ntmps100
  go_wp2_with (go_at_call 112; refine (l1Power_w _ hb _).mono ?_; rintro e w1 ⟨z, rfl, hz, hb1⟩)
  go_ret
  exact ⟨_, rfl, (by repeat (first | (with_reducible exact b_refl _) | (with_reducible refine b_alloc ?_ _) | (with_reducible refine b_drew ?_) | (with_reducible refine b_drewN ?_ _) | (with_reducible refine b_set ?_ ?_ _) | (with_reducible refine b_trans ?_ (by assumption)) | (with_reducible refine b_only ?_ (by assumption) ?_) | omega | (focus (simp; done)) | (focus (simp; omega))))⟩
theorem l16Code_w (b p s b2 p2 s2 : Int) (w : World) : Calls Try.prog 101 #[.agg #[.int .i64 b, .int .i64 p, .int .i64 s], .agg #[.int .i64 b2, .int .i64 p2, .int .i64 s2]] w (GI w) := by
  go_enter Try.func101, Try.ntmps101
  go_wp2
  all_goals
    go_ret
    exact ⟨_, rfl, (by repeat (first | (with_reducible exact b_refl _) | (with_reducible refine b_alloc ?_ _) | (with_reducible refine b_drew ?_) | (with_reducible refine b_drewN ?_ _) | (with_reducible refine b_set ?_ ?_ _) | (with_reducible refine b_trans ?_ (by assumption)) | (with_reducible refine b_only ?_ (by assumption) ?_) | omega | (focus (simp; done)) | (focus (simp; omega))))⟩
theorem con_l13Bit1 : Con 75 [([.ci], false), ([.cr 1 1], false)] tB := by
  refine con_leaf Try.func75 (by kernel_rfl) (by kernel_rfl) fun H w vs hW h => ?_
  obtain ⟨_, _, rfl, ⟨⟨x, rfl⟩, _⟩, ⟨⟨y, rfl, h1, h2⟩, _⟩⟩ := ts2 h
  exact (l13Bit_w x y (by omega) w).mono fun e w' ⟨b, he, hb⟩ => ⟨_, he, ⟨⟨b, rfl⟩, trivial⟩, hb⟩
theorem con_l13Bit2 : Con 75 [([.ci], false), ([.cr 2 2], false)] tB := by
  refine con_leaf Try.func75 (by kernel_rfl) (by kernel_rfl) fun H w vs hW h => ?_
  obtain ⟨_, _, rfl, ⟨⟨x, rfl⟩, _⟩, ⟨⟨y, rfl, h1, h2⟩, _⟩⟩ := ts2 h
  exact (l13Bit_w x y (by omega) w).mono fun e w' ⟨b, he, hb⟩ => ⟨_, he, ⟨⟨b, rfl⟩, trivial⟩, hb⟩
theorem con_l13Bit4 : Con 75 [([.ci], false), ([.cr 4 4], false)] tB := by
  refine con_leaf Try.func75 (by kernel_rfl) (by kernel_rfl) fun H w vs hW h => ?_
  obtain ⟨_, _, rfl, ⟨⟨x, rfl⟩, _⟩, ⟨⟨y, rfl, h1, h2⟩, _⟩⟩ := ts2 h
  exact (l13Bit_w x y (by omega) w).mono fun e w' ⟨b, he, hb⟩ => ⟨_, he, ⟨⟨b, rfl⟩, trivial⟩, hb⟩
theorem con_l13Bit8 : Con 75 [([.ci], false), ([.cr 8 8], false)] tB := by
  refine con_leaf Try.func75 (by kernel_rfl) (by kernel_rfl) fun H w vs hW h => ?_
  obtain ⟨_, _, rfl, ⟨⟨x, rfl⟩, _⟩, ⟨⟨y, rfl, h1, h2⟩, _⟩⟩ := ts2 h
  exact (l13Bit_w x y (by omega) w).mono fun e w' ⟨b, he, hb⟩ => ⟨_, he, ⟨⟨b, rfl⟩, trivial⟩, hb⟩
theorem con_l16Low : Con 100 [(fmtC, true), ([.ci], false)] tI := by
  refine con_leaf Try.func100 (by kernel_rfl) (by kernel_rfl) fun H w vs hW h => ?_
  obtain ⟨_, _, rfl, ⟨us, rfl, hu⟩, ⟨⟨x, rfl⟩, _⟩⟩ := ts2 h
  match us, hu with
  | [_, _, _], ⟨⟨b, rfl, _, hb⟩, ⟨p, rfl⟩, ⟨s, rfl⟩, _⟩ => exact (l16Low_w b p s x hb w).mono fun e w' ⟨z, he, hb⟩ => ⟨_, he, ⟨⟨z, rfl⟩, trivial⟩, hb⟩
theorem con_l16Code : Con 101 [(fmtC, true), (fmtC, true)] tI := by
  refine con_leaf Try.func101 (by kernel_rfl) (by kernel_rfl) fun H w vs hW h => ?_
  obtain ⟨_, _, rfl, ⟨us, rfl, hu⟩, ⟨vs, rfl, hv⟩⟩ := ts2 h
  match us, hu, vs, hv with
  | [_, _, _], ⟨⟨b, rfl, _⟩, ⟨p, rfl⟩, ⟨s, rfl⟩, _⟩, [_, _, _], ⟨⟨b2, rfl, _⟩, ⟨p2, rfl⟩, ⟨s2, rfl⟩, _⟩ => exact (l16Code_w b p s b2 p2 s2 w).mono fun e w' ⟨z, he, hb⟩ => ⟨_, he, ⟨⟨z, rfl⟩, trivial⟩, hb⟩
end Go.Proofs.Ytdnjdbafffifeaa
