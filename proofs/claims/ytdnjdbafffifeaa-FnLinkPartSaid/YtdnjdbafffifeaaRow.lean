/-
  FROM WHAT A LAW's CALL DOES TO ITS ROW: a code (a slice of bytes) as it comes in.
-/
import Derived.Test.YtdnjdbafffifeaaRead
set_option linter.unusedVariables false
set_option linter.unusedSimpArgs false
namespace Go.Proofs.Ytdnjdbafffifeaa
open Go.ChangeShapes Go.WideShapes Go.ChangeAt Go.RowKit

set_option maxRecDepth 100000 in
theorem own : ownKnob Try.prog.godebug = none := by kernel_rfl
set_option maxRecDepth 100000 in
theorem laid_out : laidOutB Try.prog = true := by kernel_rfl
/-- A code as it comes in: any slice of bytes. -/
def CodeIn (w : World) (A : Option Addr) (n c : Nat) : Prop := ∃ xs, Reads w w.heap.size 1 A n xs ∧ Bytes xs ∧ n ≤ c ∧ c ≤ maxLen
theorem CodeIn.code {w : World} {A : Option Addr} {n c : Nat} (h : CodeIn w A n c) (hn : n ≤ 1048576) : Code w A n c := by
  obtain ⟨xs, h0, h1, h2, h3⟩ := h
  exact ⟨xs, h0, h1, hn, h2, h3⟩
theorem CodeIn.len {w : World} {A : Option Addr} {n c : Nat} (h : CodeIn w A n c) : n ≤ 9223372036854775807 := by
  obtain ⟨xs, _, _, h2, h3⟩ := h
  unfold maxLen at h3
  omega

set_option maxRecDepth 100000 in
/-- A slice of integers of one kind as it comes in. -/
theorem open_row {H : Type} {enc : TypeId × Value → H} {W : World} {r : Reach} {b0 : Nat} {t e : TypeId} {k : IntKind} {v : Value} {d : DataW H} {ps : List MemPlace}
    (ht : Try.prog.underlying t = some (.slice e)) (he : Try.prog.underlying e = some (.int k)) (hc : Try.prog.cellsOf e = 1)
    (hv : Value.okWide Try.prog W r b0 t v) (h : DataW.Trod enc Try.prog W 0 (fun _ => true) true t v d ps) :
    ∃ (A : Option Addr) (n c : Nat) (zs : List Int), v = .slice A n c ∧ Reads W W.heap.size 1 A n (zs.map (Value.int k)) ∧ zs.length = n ∧ (∀ z ∈ zs, (Lit.int k z).wf = true) ∧ n ≤ c ∧ c ≤ maxLen := by
  obtain ⟨a0, len, cap, rfl⟩ := okWide_slice ht hv
  obtain ⟨fuel, hf⟩ := h
  rcases open_ints ht he hc hf with ⟨hcs, _⟩ | ⟨a, len', cap', zs, hcs, _, hl, hm, hz, _, hcell, hw⟩
  · simp [Value.cells] at hcs
    obtain ⟨rfl, rfl, rfl⟩ := hcs
    exact ⟨none, 0, 0, [], rfl, Reads.none_, rfl, fun _ h => (by cases h), Nat.le_refl _, by unfold maxLen; omega⟩
  · simp [Value.cells] at hcs
    obtain ⟨rfl, rfl, rfl⟩ := hcs
    simp only [if_true] at hz
    refine ⟨some a, len, cap, zs.take len, rfl, ⟨by simp; omega, fun h0 => ⟨a, rfl, ?_, fun j u hu => ?_⟩⟩, by simp; omega, fun z hz => hw z (List.mem_of_mem_take hz), hl, hm⟩
    · have := World.block_lt_of_cell? W _ (hcell 0 (by omega))
      rwa [block_of_add] at this
    · simp only [List.getElem?_map, Option.map_eq_some_iff] at hu
      obtain ⟨z, hz1, rfl⟩ := hu
      rw [List.getElem?_take] at hz1
      split at hz1
      · rename_i hj
        have hjz : j < zs.length := by omega
        rw [hcell j hjz]
        simp only [List.getD, hz1, Option.getD_some]
      · cases hz1

set_option maxRecDepth 100000 in
/-- A slice of bytes as it comes in. -/
theorem open_code {H : Type} {enc : TypeId × Value → H} {W : World} {r : Reach} {b0 : Nat} {v : Value} {d : DataW H} {ps : List MemPlace}
    (hv : Value.okWide Try.prog W r b0 58 v) (h : DataW.Trod enc Try.prog W 0 (fun _ => true) true 58 v d ps) : ∃ A n c, v = .slice A n c ∧ CodeIn W A n c := by
  obtain ⟨A, n, c, zs, rfl, hr, hl, hw, h1, h2⟩ := open_row Try.underlying58 Try.underlying5 (by kernel_rfl) hv h
  refine ⟨A, n, c, rfl, _, hr, fun i u hu => ?_, h1, h2⟩
  simp only [List.getElem?_map, Option.map_eq_some_iff] at hu
  obtain ⟨z, hz, rfl⟩ := hu
  have := hw z (List.mem_of_getElem? hz)
  simp [Lit.wf, IntKind.min, IntKind.max, IntKind.signed, IntKind.bits] at this
  exact ⟨z, rfl, this⟩
end Go.Proofs.Ytdnjdbafffifeaa
