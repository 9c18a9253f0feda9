/-
  A READER AT A PLACE THAT IS AT MOST b: where ways with more and with fewer picks meet.
-/
import Derived.Test.YtdnjdbafffifeaaRead
set_option linter.unusedVariables false
set_option linter.unusedSimpArgs false
namespace Go.Proofs.Ytdnjdbafffifeaa
open Go.ChangeShapes Go.WideShapes Go.ChangeAt Go.RowKit

def RdU (w : World) (rb b : Nat) : Prop := ∃ q, Rd w rb q ∧ q ≤ b
section
variable {w w' : World} {rb a b : Nat}
theorem Rd.u (h : Rd w rb a) : RdU w rb a := ⟨a, h, Nat.le_refl _⟩
theorem RdB.u (h : RdB w rb a b) : RdU w rb b := h.elim fun q h => ⟨q, h.1, h.2.2⟩
theorem RdU.up (h : RdU w rb a) (hab : a ≤ b) : RdU w rb b := h.elim fun q h => ⟨q, h.1, Nat.le_trans h.2 hab⟩
theorem Rd.up (h : Rd w rb a) (hab : a ≤ b) : RdU w rb b := ⟨a, h, hab⟩
theorem RdU.lt (h : RdU w rb a) : rb < w.heap.size := h.elim fun _ h => h.1.lt
theorem RdU.alloc (h : RdU w rb b) (o : Obj) : RdU (w.alloc o) rb b := h.elim fun _ h => ⟨_, h.1.alloc o, h.2⟩
theorem RdU.drewN (h : RdU w rb b) (n : Nat) : RdU (w.drewN n) rb b := h
theorem RdU.drew (h : RdU w rb b) : RdU w.drew rb b := h
theorem RdU.setCell (h : RdU w rb b) {x : Addr} (hx : rb < x.block) (u : Value) : RdU (w.setCell x u) rb b := h.elim fun _ h => ⟨_, h.1.setCell hx u, h.2⟩
theorem RdU.below (h : RdU w rb b) (hb : Below w.heap.size w w') : RdU w' rb b := h.elim fun _ h => ⟨_, h.1.below hb h.1.lt, h.2⟩
theorem RdU.grown {r : Option Nat} (h : RdU w rb b) (hg : w.grownBy w' r) (hr : ∀ k, r = some k → rb < k) : RdU w' rb b := h.elim fun _ h => ⟨_, h.1.grown hg hr, h.2⟩
end
theorem pick_U (rb b : Nat) (m : Int) (w : World) (h : RdU w rb b) (hb : b ≤ 1000000000) (hm : 1 ≤ m) :
    Calls Try.prog 31 #[.pointer (some ⟨rb, 0, none⟩), .int .i64 m] w fun e w' => ∃ v : Int, e = .returned (.int .i64 v) ∧ 0 ≤ v ∧ v < m ∧ RdU w' rb (b + 1) ∧ w.grownBy w' (some rb) := by
  obtain ⟨q, h, hq⟩ := h
  refine (pick_any rb q m w h (by omega) hm).mono ?_
  rintro e w' ⟨v, rfl, hv, hu, hr, ho⟩
  exact ⟨v, rfl, hv, hu, ⟨_, hr, by omega⟩, ho⟩
theorem open_U (A : Option Addr) (n c : Nat) (w : World) (hC : Code w A n c) : Calls Try.prog 22 #[.slice A n c] w fun e w' => ∃ rb, e = .returned (.pointer (some ⟨rb, 0, none⟩)) ∧ w.heap.size ≤ rb ∧ RdU w' rb 0 ∧ Below w.heap.size w w' := by
  refine (open_any A n c w hC).mono ?_
  rintro e w' ⟨rb, rfl, h1, h2, h3⟩
  exact ⟨rb, rfl, h1, h2.u, h3⟩
/-- One of some numbers in a row. -/
theorem nth_of {w : World} {g : Nat} {t : TypeId} (zs : List Int) {i : Int} (h : Blk w g t (zs.map (Value.int .i64)).toArray) (h0 : 0 ≤ i) (h1 : i < zs.length) : ∃ x : Int, w.cell? ⟨g, i.toNat, none⟩ = some (.int .i64 x) ∧ x ∈ zs := by
  have hl : i.toNat < zs.length := by omega
  refine ⟨zs[i.toNat], ?_, List.getElem_mem hl⟩
  rw [h.cell]
  simp [hl]
end Go.Proofs.Ytdnjdbafffifeaa
