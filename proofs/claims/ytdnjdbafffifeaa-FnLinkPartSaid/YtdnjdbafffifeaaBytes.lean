/-
  ARE ALL NUMBERS OF A LIST BYTES? l4Bytes (the reference's), isByte and allBytes (the program's). Condition: at most 2^40 elements.
-/
import Derived.Test.YtdnjdbafffifeaaInts
import Derived.Test.YtdnjdbafffifeaaRead
set_option linter.unusedVariables false
set_option linter.unusedSimpArgs false
namespace Go.Proofs.Ytdnjdbafffifeaa
open Go.ChangeShapes Go.WideShapes Go.ChangeAt Go.RowKit

def bytesOk (xs : List Int) : Bool := xs.all fun x => in_ x 0 255
theorem bytesOk_iff {xs : List Int} : bytesOk xs = true ↔ ∀ x ∈ xs, 0 ≤ x ∧ x ≤ 255 := by simp [bytesOk, in_]
theorem bytesOk_step {xs : List Int} {k : Nat} {x : Int} (h : bytesOk (xs.take k) = true) (hx : xs[k]? = some x) (hi : in_ x 0 255 = true) : bytesOk (xs.take (k + 1)) = true := by
  rw [List.take_add_one, hx]
  simp [bytesOk] at h ⊢
  exact ⟨h, hi⟩
theorem bytesOk_no {xs : List Int} {k : Nat} {x : Int} (hx : xs[k]? = some x) (hi : in_ x 0 255 = false) : bytesOk xs = false := by
  have hm := List.mem_of_getElem? hx
  rw [← Bool.not_eq_true]
  intro h
  have := List.all_eq_true.1 h x hm
  rw [hi] at this
  cases this
theorem bytesOk_at {xs : List Int} {k : Nat} {x : Int} (h : bytesOk xs = true) (hx : xs[k]? = some x) : 0 ≤ x ∧ x ≤ 255 := bytesOk_iff.1 h x (List.mem_of_getElem? hx)
theorem bytesOk_take {xs : List Int} (h : bytesOk xs = true) (k : Nat) : bytesOk (xs.take k) = true := bytesOk_iff.2 fun x hx => bytesOk_iff.1 h x (List.mem_of_mem_take hx)
theorem bytesOk_drop {xs : List Int} (h : bytesOk xs = true) (k : Nat) : bytesOk (xs.drop k) = true := bytesOk_iff.2 fun x hx => bytesOk_iff.1 h x (List.mem_of_mem_drop hx)
theorem bytesOk_append {xs ys : List Int} : bytesOk (xs ++ ys) = (bytesOk xs && bytesOk ys) := by simp [bytesOk]
set_option maxHeartbeats 1000000 in
theorem l4Bytes_any (A : Option Addr) (n c : Nat) (xs : List Int) (w : World) (hx : Ints w A n xs) (hn : n ≤ 1099511627776) :
    Calls Try.prog 39 #[.slice A n c] w fun e w' => e = .returned (.bool (bytesOk xs)) ∧ w = w' := by
  have HX := Lib.hid hx.len
  go_enter Try.func39, Try.ntmps39
  go_wp2
  go_loop [3] (fun i => ∃ k : Nat, k ≤ n ∧ i = .int .i64 k ∧ Hid (bytesOk (xs.take k) = true)) (fun i => n - (intOf i).toNat)
  case atStart => exact ⟨0, Nat.zero_le _, rfl, rfl⟩
  case round =>
    obtain ⟨k, hk, rfl, HB⟩ := hrel
    by_cases hlt : k < n
    · obtain ⟨b, o, x, rfl, hb, ex, hc⟩ := hx.at_ hlt
      have EX := Lib.hid ex
      clear ex
      by_cases hin : in_ x 0 255 = true
      · go_wp2_with (go_at_call 40; refine (l6In_any _ _ _ _).mono ?_; rintro e w' ⟨rfl, rfl⟩)
        go_round
        case rel => exact ⟨k + 1, by omega, by go_num, bytesOk_step HB.out EX.out hin⟩
        case measure => simp [intOf]; omega
      · have hin2 : in_ x 0 255 = false := by simpa using hin
        go_wp2_with (go_at_call 40; refine (l6In_any _ _ _ _).mono ?_; rintro e w' ⟨rfl, rfl⟩)
        go_ret
        exact ⟨ret_bool (bytesOk_no EX.out hin2).symm, rfl⟩
    · obtain rfl : k = n := by omega
      go_wp2
      go_ret
      exact ⟨ret_bool (by have h := HB.out; rw [List.take_of_length_le (by have := HX.out; omega)] at h; exact h.symm), rfl⟩
theorem isByte_any (x : Int) (w : World) : Calls Try.prog 81 #[.int .i64 x] w fun e w' => e = .returned (.bool (in_ x 0 255)) ∧ w = w' := by
  go_enter Try.func81, Try.ntmps81
  go_wp2
  all_goals
    go_ret
    exact ⟨ret_bool (by simp [in_]; omega), rfl⟩
set_option maxHeartbeats 1000000 in
theorem allBytes_any (A : Option Addr) (n c : Nat) (xs : List Int) (w : World) (hx : Ints w A n xs) (hn : n ≤ 1099511627776) :
    Calls Try.prog 62 #[.slice A n c] w fun e w' => e = .returned (.bool (bytesOk xs)) ∧ w = w' := by
  have HX := Lib.hid hx.len
  go_enter Try.func62, Try.ntmps62
  go_wp2
  go_loop [7] (fun i => ∃ k : Nat, k ≤ n ∧ i = .int .i64 k ∧ Hid (bytesOk (xs.take k) = true)) (fun i => n - (intOf i).toNat)
  case atStart => exact ⟨0, Nat.zero_le _, rfl, rfl⟩
  case round =>
    obtain ⟨k, hk, rfl, HB⟩ := hrel
    by_cases hlt : k < n
    · obtain ⟨b, o, x, rfl, hb, ex, hc⟩ := hx.at_ hlt
      have EX := Lib.hid ex
      clear ex
      by_cases hin : in_ x 0 255 = true
      · go_wp2_with (go_at_call 81; refine (isByte_any _ _).mono ?_; rintro e w' ⟨rfl, rfl⟩)
        go_round
        case rel => exact ⟨k + 1, by omega, by go_num, bytesOk_step HB.out EX.out hin⟩
        case measure => simp [intOf]; omega
      · have hin2 : in_ x 0 255 = false := by simpa using hin
        go_wp2_with (go_at_call 81; refine (isByte_any _ _).mono ?_; rintro e w' ⟨rfl, rfl⟩)
        go_ret
        exact ⟨ret_bool (bytesOk_no EX.out hin2).symm, rfl⟩
    · obtain rfl : k = n := by omega
      go_wp2
      go_ret
      exact ⟨ret_bool (by have h := HB.out; rw [List.take_of_length_le (by have := HX.out; omega)] at h; exact h.symm), rfl⟩
end Go.Proofs.Ytdnjdbafffifeaa
