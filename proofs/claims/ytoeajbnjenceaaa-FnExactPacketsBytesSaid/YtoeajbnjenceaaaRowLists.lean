/-
  A list of lists of integers as it comes in.
-/
import Derived.Test.YtoeajbnjenceaaaRow
import Derived.Test.YtoeajbnjenceaaaLists
import Derived.Deep.Matrix
set_option linter.unusedVariables false
set_option linter.unusedSimpArgs false
namespace Go.Proofs.Ytoeajbnjenceaaa
open Go.ChangeShapes Go.WideShapes Go.ChangeAt Go.RowKit

theorem open_lists {H : Type} {enc : TypeId × Value → H} {W : World} {r : Reach} {b0 : Nat} {v : Value} {d : DataW H} {ps : List MemPlace}
    (hv : Value.okWide Try.prog W r b0 29 v) (h : DataW.Trod enc Try.prog W 0 (fun _ => true) true 29 v d ps) :
    ∃ (A : Option Addr) (n c : Nat) (ss : List Sl) (xss : List (List Int)), v = .slice A n c ∧ Lists W A n ss xss ∧ n ≤ c ∧ c ≤ maxLen := by
  obtain ⟨a0, len, cap, rfl⟩ := okWide_slice Try.underlying29 hv
  obtain ⟨fuel, hf⟩ := h
  rcases Go.Deep.open_int_rows Try.underlying29 Try.underlying22 Try.underlying3 (by kernel_rfl) (by kernel_rfl) hf with ⟨hcs, _⟩ | ⟨a, len', cap', A, L, C, Z, hcs, _, hl, hm, _, hr⟩
  · simp [Value.cells] at hcs
    obtain ⟨rfl, rfl, rfl⟩ := hcs
    exact ⟨none, 0, 0, [], [], rfl, ⟨Reads.none_, rfl, fun k s xs h1 => by simp at h1⟩, Nat.le_refl _, by unfold maxLen; omega⟩
  · simp [Value.cells] at hcs
    obtain ⟨rfl, rfl, rfl⟩ := hcs
    refine ⟨some a, len, cap, (List.range len).map fun r => (A r, L r, C r), (List.range len).map fun r => (Z r).take (L r), rfl, ⟨⟨by simp, fun h0 => ⟨a, rfl, ?_, fun j u hu => ?_⟩⟩, by simp, fun k s xs h1 h2 => ?_⟩, hl, hm⟩
    · have := World.block_lt_of_cell? W _ (hr 0 (by omega)).1
      rwa [block_of_add] at this
    · simp only [List.getElem?_map, Option.map_eq_some_iff] at hu
      obtain ⟨s, ⟨i, hi, rfl⟩, rfl⟩ := hu
      have hij : i = j ∧ j < len := by
        obtain ⟨hj, e⟩ := List.getElem?_eq_some_iff.1 hi
        simp at e hj
        omega
      obtain ⟨rfl, hjl⟩ := hij
      exact (hr i (by omega)).1
    · simp only [List.getElem?_map, Option.map_eq_some_iff] at h1 h2
      obtain ⟨i, hi, rfl⟩ := h1
      obtain ⟨i', hi', rfl⟩ := h2
      rw [hi] at hi'
      injection hi' with hi'
      subst hi'
      have hij : i < len := List.mem_range.1 (List.mem_of_getElem? hi)
      obtain ⟨_, h3, h4, h5, _, h6, h7⟩ := hr i (by omega)
      refine ⟨⟨by simp; omega, fun h0' => ?_⟩, h3, h4⟩
      have h0 : 0 < L i := h0'
      rcases hA : A i with _ | a'
      · have := h6 hA
        omega
      · obtain ⟨_, h8⟩ := h7 a' hA
        refine ⟨a', rfl, ?_, fun j u hu => ?_⟩
        · have := World.block_lt_of_cell? W _ (h8 0 (by omega))
          rwa [block_of_add] at this
        · simp only [List.getElem?_map, Option.map_eq_some_iff] at hu
          obtain ⟨z, hz, rfl⟩ := hu
          rw [List.getElem?_take] at hz
          split at hz
          · rename_i hj
            rw [h8 j (by omega)]
            simp only [List.getD, hz, Option.getD_some]
          · cases hz
end Go.Proofs.Ytoeajbnjenceaaa
