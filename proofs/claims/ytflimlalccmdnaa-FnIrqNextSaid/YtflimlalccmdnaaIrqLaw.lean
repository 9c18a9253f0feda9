/-
  THE PLAIN LAW OF INTERRUPTS: why there is one, what counts more, what comes next.
-/
import Derived.Test.YtflimlalccmdnaaIrq2
import Derived.Test.YtflimlalccmdnaaIrq3
set_option linter.unusedVariables false
set_option linter.unusedSimpArgs false
namespace Go.Proofs.Ytflimlalccmdnaa
open Go.ChangeShapes Go.WideShapes Go.ChangeAt Go.RowKit

def rk (v : Int) : Int := if v = 6 then 0 else if v = 4 then 1 else if v = 12 then 2 else if v = 2 then 3 else if v = 0 then 4 else 5
def bitv (v : Int) : Int := if v = 6 then 4 else if v = 4 then 1 else if v = 12 then 1 else if v = 2 then 2 else if v = 0 then 8 else 0
def Six (v : Int) : Prop := v = 6 ∨ v = 4 ∨ v = 12 ∨ v = 2 ∨ v = 0 ∨ v = 1
theorem irqN_six (b0 b1 b2 b3 b4 : Bool) : Six (irqN b0 b1 b2 b3 b4) := by
  cases b0 <;> cases b1 <;> cases b2 <;> cases b3 <;> cases b4 <;> simp [Six, irqN]
theorem irqAll_six (st rd : Int) (md : Bool) (en : Int) : Six (irqAll st rd md en) := by
  unfold irqAll
  split
  · exact irqN_six _ _ _ _ _
  · simp [Six]
theorem rank_any (v : Int) (w : World) (h : Six v) : Calls Try.prog 17 #[.int .i64 v] w fun e w' => e = .returned (.int .i64 (rk v)) ∧ Below w.heap.size w w' := by
  rcases h with rfl | rfl | rfl | rfl | rfl | rfl
  · exact rank_6 w
  · exact rank_4 w
  · exact rank_12 w
  · exact rank_2 w
  · exact rank_0 w
  · exact rank_1 w
theorem bit_any (v : Int) (w : World) (h : Six v) : Calls Try.prog 16 #[.int .i64 v] w fun e w' => e = .returned (.int .i64 (bitv v)) ∧ Below w.heap.size w w' := by
  rcases h with rfl | rfl | rfl | rfl | rfl | rfl
  · exact bit_6 w
  · exact bit_4 w
  · exact bit_12 w
  · exact bit_2 w
  · exact bit_0 w
  · exact bit_1 w
theorem bitv_bd (v : Int) : 0 ≤ bitv v ∧ bitv v ≤ 8 := by
  unfold bitv
  split
  · omega
  split
  · omega
  split
  · omega
  split
  · omega
  split <;> omega
theorem valid_of {st rd : Int} {md : Bool} {en : Int} (h : ¬ irqAll st rd md en = 1) : irqValid st rd en = true := by
  unfold irqAll at h
  split at h
  · assumption
  · exact absurd rfl h
theorem valid_bd {st rd en : Int} (h : irqValid st rd en = true) : (0 ≤ st ∧ st ≤ 127) ∧ (0 ≤ rd ∧ rd ≤ 2) ∧ 0 ≤ en ∧ en ≤ 15 := by
  simp [irqValid, in_] at h
  omega
theorem irq_why {st rd : Int} {md : Bool} {en : Int} (h : ¬ irqAll st rd md en = 1) :
    (irqAll st rd md en = 6 ∧ bt en 4 = true ∧ 2 ≤ st % 16) ∨ (irqAll st rd md en = 4 ∧ bt en 1 = true ∧ rd = 1) ∨ (irqAll st rd md en = 12 ∧ bt en 1 = true ∧ rd = 2) ∨ (irqAll st rd md en = 2 ∧ bt en 2 = true ∧ bt st 32 = true) ∨ (irqAll st rd md en = 0 ∧ bt en 8 = true ∧ md = true) := by
  have hv := valid_of h
  rw [irqAll, if_pos hv] at h ⊢
  unfold irqN at h ⊢
  split
  · rename_i q; simp at q; exact .inl ⟨rfl, q⟩
  split
  · rename_i q; simp at q; exact .inr (.inl ⟨rfl, q⟩)
  split
  · rename_i q; simp at q; exact .inr (.inr (.inl ⟨rfl, q⟩))
  split
  · rename_i q; simp at q; exact .inr (.inr (.inr (.inl ⟨rfl, q⟩)))
  split
  · rename_i q; simp at q; exact .inr (.inr (.inr (.inr ⟨rfl, q⟩)))
  · rename_i q0 q1 q2 q3 q4; simp [q0, q1, q2, q3, q4] at h
theorem irq_most (st rd : Int) (md : Bool) (en : Int) (h : ¬ irqAll st rd md en = 1) : rk (irqAll st rd md 15) ≤ rk (irqAll st rd md en) := by
  have hv := valid_of h
  have hb := valid_bd hv
  have hv2 : irqValid st rd 15 = true := by simp [irqValid, in_]; omega
  rw [irqAll, if_pos hv2, irqAll, if_pos hv]
  have e1 : bt 15 4 = true := by decide
  have e2 : bt 15 1 = true := by decide
  have e3 : bt 15 2 = true := by decide
  have e4 : bt 15 8 = true := by decide
  rw [e1, e2, e3, e4]
  have key : ∀ a b c d s r1 r2 u m : Bool, rk (irqN (true && s) (true && r1) (true && r2) (true && u) (true && m)) ≤ rk (irqN (a && s) (b && r1) (b && r2) (c && u) (d && m)) := by decide +kernel
  exact key _ _ _ _ _ _ _ _ _
theorem irq_next (st rd : Int) (md : Bool) (en : Int) (h : ¬ irqAll st rd md en = 1) : rk (irqAll st rd md en) < rk (irqAll st rd md (en - bitv (irqAll st rd md en))) := by
  have hv := valid_of h
  have hb := valid_bd hv
  rw [irqAll, if_pos hv] at h ⊢
  obtain ⟨m, rfl⟩ := Int.eq_ofNat_of_zero_le hb.2.2.1
  have hm : m < 16 := by omega
  have key : ∀ (k : Fin 16) (s r1 r2 u m : Bool), ¬ irqN (bt (k.val : Int) 4 && s) (bt (k.val : Int) 1 && r1) (bt (k.val : Int) 1 && r2) (bt (k.val : Int) 2 && u) (bt (k.val : Int) 8 && m) = 1 →
      0 ≤ (k.val : Int) - bitv (irqN (bt (k.val : Int) 4 && s) (bt (k.val : Int) 1 && r1) (bt (k.val : Int) 1 && r2) (bt (k.val : Int) 2 && u) (bt (k.val : Int) 8 && m)) ∧
      rk (irqN (bt (k.val : Int) 4 && s) (bt (k.val : Int) 1 && r1) (bt (k.val : Int) 1 && r2) (bt (k.val : Int) 2 && u) (bt (k.val : Int) 8 && m)) <
      rk (irqN (bt ((k.val : Int) - bitv (irqN (bt (k.val : Int) 4 && s) (bt (k.val : Int) 1 && r1) (bt (k.val : Int) 1 && r2) (bt (k.val : Int) 2 && u) (bt (k.val : Int) 8 && m))) 4 && s)
        (bt ((k.val : Int) - bitv (irqN (bt (k.val : Int) 4 && s) (bt (k.val : Int) 1 && r1) (bt (k.val : Int) 1 && r2) (bt (k.val : Int) 2 && u) (bt (k.val : Int) 8 && m))) 1 && r1)
        (bt ((k.val : Int) - bitv (irqN (bt (k.val : Int) 4 && s) (bt (k.val : Int) 1 && r1) (bt (k.val : Int) 1 && r2) (bt (k.val : Int) 2 && u) (bt (k.val : Int) 8 && m))) 1 && r2)
        (bt ((k.val : Int) - bitv (irqN (bt (k.val : Int) 4 && s) (bt (k.val : Int) 1 && r1) (bt (k.val : Int) 1 && r2) (bt (k.val : Int) 2 && u) (bt (k.val : Int) 8 && m))) 2 && u)
        (bt ((k.val : Int) - bitv (irqN (bt (k.val : Int) 4 && s) (bt (k.val : Int) 1 && r1) (bt (k.val : Int) 1 && r2) (bt (k.val : Int) 2 && u) (bt (k.val : Int) 8 && m))) 8 && m)) := by decide +kernel
  obtain ⟨k1, k2⟩ := key ⟨m, hm⟩ _ _ _ _ _ h
  have hbd := bitv_bd (irqN (bt (m : Int) 4 && decide (2 ≤ st % 16)) (bt (m : Int) 1 && rd == 1) (bt (m : Int) 1 && rd == 2) (bt (m : Int) 2 && bt st 32) (bt (m : Int) 8 && md))
  have hv2 : irqValid st rd ((m : Int) - bitv (irqN (bt (m : Int) 4 && decide (2 ≤ st % 16)) (bt (m : Int) 1 && rd == 1) (bt (m : Int) 1 && rd == 2) (bt (m : Int) 2 && bt st 32) (bt (m : Int) 8 && md))) = true := by
    simp only [irqValid, in_, Bool.and_eq_true, decide_eq_true_eq]
    simp only at k1
    omega
  rw [irqAll, if_pos hv2]
  exact k2
end Go.Proofs.Ytflimlalccmdnaa
