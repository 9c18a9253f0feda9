/-
  PLAIN LAWS OF SEVERAL PACKETS.
-/
import Derived.Test.YtoeajbnjenceaaaDoorPacketsDraw
set_option linter.unusedVariables false
set_option linter.unusedSimpArgs false
namespace Go.Proofs.YtoeajbnjenceaaaDoor
open Go.ChangeShapes Go.WideShapes Go.ChangeAt Go.RowKit

theorem packsOut_len (xss : List (List Int)) : (packsOut xss).length ≤ 410 := by
  by_cases h : packsOk xss = true
  · rw [packsOut_yes h]
    simp only [packsOk, Bool.and_eq_true, decide_eq_true_eq] at h
    have := packedAll_len h.1
    omega
  · rw [packsOut_no (by simpa using h)]
    simp
theorem packsOk_parts {xss : List (List Int)} (h : packsOk xss = true) : xss.all packOk = true ∧ xss.length ≤ 10 := by
  simpa only [packsOk, Bool.and_eq_true, decide_eq_true_eq] using h
theorem packsOk_take {xss : List (List Int)} (h : packsOk xss = true) (k : Nat) : packsOk (xss.take k) = true := by
  obtain ⟨h1, h2⟩ := packsOk_parts h
  simp only [packsOk, Bool.and_eq_true, decide_eq_true_eq]
  exact ⟨List.all_eq_true.2 fun x hx => List.all_eq_true.1 h1 x (List.mem_of_mem_take hx), by simp; omega⟩
theorem packsOk_drop {xss : List (List Int)} (h : packsOk xss = true) (k : Nat) : packsOk (xss.drop k) = true := by
  obtain ⟨h1, h2⟩ := packsOk_parts h
  simp only [packsOk, Bool.and_eq_true, decide_eq_true_eq]
  exact ⟨List.all_eq_true.2 fun x hx => List.all_eq_true.1 h1 x (List.mem_of_mem_drop hx), by simp; omega⟩
theorem tot_drop_le (xss : List (List Int)) (k : Nat) : tot (xss.drop k) ≤ tot xss := by
  conv => rhs; rw [← List.take_append_drop k xss]
  simp only [tot, List.flatten_append, List.length_append]
  omega
theorem packedAll_split (xss : List (List Int)) (k : Nat) : packedAll (xss.take k) ++ packedAll (xss.drop k) = packedAll xss := by
  unfold packedAll
  rw [← List.flatMap_append, List.take_append_drop]
theorem Lists.none_ (w : World) (A : Option Addr) : Lists w A 0 [] [] := ⟨⟨by simp, fun h => absurd h (by omega)⟩, rfl, fun k s xs h => by simp at h⟩
/-- An append behind a guard that is met. -/
theorem wpList_appG {ops : Array Oper} {rest : List Oper} {o : Oper} {a : Act} {Q : Exit → Act → World → Prop} {w : World} {base : Nat} {v : Value} {n : Nat} {xs : List Int} {A : Option Addr} {m c : Nat} {ys : List Int}
    (hown : w.ownsRow base 3 1 v n (xs.map (Value.int .i64))) (hr : Ints w A m ys) (hgd : Region.wanted o (yielded ops a.tmps) = true) (s x : Operand)
    (ho : o.op = .call { callee := .builtin .append, args := #[s, x], argTypes := #[22, 22] }) (hs : a.eval s = v) (hx : a.eval x = .slice A m c) (k : Nat) (hk : n + m = k) (hnm : k ≤ 1099511627776) (hbase : base ≤ w.heap.size)
    (h : ∀ (A' : Option Addr) (c' : Nat) (w' : World), w'.ownsRow base 3 1 (.slice A' k c') k ((xs ++ ys).map (Value.int .i64)) → w.grownBy w' v.ownBlock → (Value.slice A' k c').ownBlock = v.ownBlock ∨ (Value.slice A' k c').ownBlock = some w.heap.size → k ≤ c' → c' ≤ maxLen → wpList Tryd.prog ops Q rest (a.put o.dst (.slice A' k c')) w') : wpList Tryd.prog ops Q (o :: rest) a w := by
  unfold wpList
  rw [if_pos hgd]
  exact .inl (wp_app hown hr s x ho hs hx k hk hnm hbase fun A' c' w' h1 h2 h3 h4 h5 => h A' c' w' h1 h2 h3 h4 h5)
end Go.Proofs.YtoeajbnjenceaaaDoor
