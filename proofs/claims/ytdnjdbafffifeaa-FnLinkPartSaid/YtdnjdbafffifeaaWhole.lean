/-
  WHOLE STRUCTS OUT OF AND INTO BLOCKS: a load, a store, a result, however many cells.
-/
import Derived.Test.YtdnjdbafffifeaaAppend
import Derived.Deep.MidRow
set_option linter.unusedVariables false
set_option linter.unusedSimpArgs false
namespace Go.Proofs.Ytdnjdbafffifeaa
open Go.ChangeShapes Go.WideShapes Go.ChangeAt Go.RowKit

section
variable {P : Program} {w : World} {g : Nat} {t : TypeId} {cs : Array Value}
theorem Blk.range (h : Blk w g t cs) (o : Nat) {n : Nat} {vs : List Value} (hv : (cs.toList.drop o).take n = vs) : w.rangeAt g o vs := by
  subst hv
  intro j v hj
  rw [h.cell]
  rw [List.getElem?_take] at hj
  split at hj
  · rw [List.getElem?_drop] at hj
    simpa using hj
  · cases hj
theorem Blk.there (h : Blk w g t cs) {o n : Nat} (hn : o + n ≤ cs.size) : w.there g o n := fun j hj => by
  refine ⟨?_, h.frozen _⟩
  rw [h.cell, Array.getElem?_eq_getElem (by omega)]
  rfl
theorem setCells_Blk (vs : List Value) : ∀ (w : World) (cs : Array Value) (o : Nat), Blk w g t cs → o + vs.length ≤ cs.size → Blk (w.setCells g o vs) g t (cs.toList.take o ++ vs ++ cs.toList.drop (o + vs.length)).toArray := by
  induction vs with
  | nil =>
    intro w cs o h _
    simpa [World.setCells] using h
  | cons v r ih =>
    intro w cs o h hl
    simp only [List.length_cons] at hl
    have h1 := h.set_ o v
    have h2 := ih (w.setCell ⟨g, o, none⟩ v) (cs.setIfInBounds o v) (o + 1) h1 (by simp; omega)
    rw [World.setCells]
    have e : ((cs.setIfInBounds o v).toList.take (o + 1) ++ r ++ (cs.setIfInBounds o v).toList.drop (o + 1 + r.length)) = cs.toList.take o ++ v :: r ++ cs.toList.drop (o + (v :: r).length) := by
      have ho : o < cs.toList.length := by simp; omega
      rw [Array.toList_setIfInBounds, List.take_set, List.drop_set_of_lt (by omega), List.take_succ_eq_append_getElem ho, List.set_append_right _ _ (by simp; omega)]
      simp only [List.length_take, Array.length_toList, List.length_cons]
      rw [Nat.min_eq_left (by omega), Nat.sub_self, List.set_cons_zero, show o + 1 + r.length = o + (r.length + 1) from by omega]
      simp
    rw [← e]
    exact h2
theorem setCells_only (vs : List Value) : ∀ (w : World) (o : Nat), w.grownBy (w.setCells g o vs) (some g) := by
  induction vs with
  | nil => intro w o; exact only_refl w _
  | cons v r ih =>
    intro w o
    rw [World.setCells]
    exact only_trans (only_setCell (only_refl w _) (.inl rfl) v) (ih _ _)
/-- Is it this load (this store)? -/
theorem at_load {ops : Array Oper} {rest : List Oper} {o : Oper} {a : Act} {Q : Exit → Act → World → Prop} (ty : TypeId) (x : Operand) (_ho : o.op = .load ty x) (h : wpList P ops Q (o :: rest) a w) : wpList P ops Q (o :: rest) a w := h
theorem at_store {ops : Array Oper} {rest : List Oper} {o : Oper} {a : Act} {Q : Exit → Act → World → Prop} (ty : TypeId) (x y : Operand) (_ho : o.op = .store ty x y) (h : wpList P ops Q (o :: rest) a w) : wpList P ops Q (o :: rest) a w := h
/-- A struct is read. -/
theorem wpList_loadB {ops : Array Oper} {rest : List Oper} {o : Oper} {a : Act} {Q : Exit → Act → World → Prop} (h : Blk w g t cs) (ty : TypeId) (x : Operand) (ho : o.op = .load ty x) (hgd : Region.wanted o (yielded ops a.tmps) = true)
    (off : Nat) (hx : a.eval x = .pointer (some ⟨g, off, none⟩)) (vs : List Value) (hv : (cs.toList.drop off).take vs.length = vs) {d : TypeDesc} (hu : P.underlying ty = some d) (hd : d.isRow = true) (hi : (P.info? ty).map (·.size) = some vs.length)
    (hK : wpList P ops Q rest (a.put o.dst (.agg vs.toArray)) w) : wpList P ops Q (o :: rest) a w := by
  unfold wpList
  rw [if_pos hgd]
  exact .inl (wp_load_mid ty x ho g off hx vs d (h.range off hv) hu hd hi hK)
/-- A struct is written. -/
theorem wpList_storeB {ops : Array Oper} {rest : List Oper} {o : Oper} {a : Act} {Q : Exit → Act → World → Prop} (h : Blk w g t cs) (ty : TypeId) (x y : Operand) (ho : o.op = .store ty x y) (hgd : Region.wanted o (yielded ops a.tmps) = true)
    (off : Nat) (hx : a.eval x = .pointer (some ⟨g, off, none⟩)) (vs : List Value) (hy : a.eval y = .agg vs.toArray) (hi : (P.info? ty).map (·.size) = some vs.length) (h1 : vs.all (·.oneCell') = true) (hn : off + vs.length ≤ cs.size)
    (cs' : List Value) (hcs : cs.toList.take off ++ vs ++ cs.toList.drop (off + vs.length) = cs')
    (hK : ∀ w', Blk w' g t cs'.toArray → w.grownBy w' (some g) → wpList P ops Q rest (a.put o.dst undef) w') : wpList P ops Q (o :: rest) a w := by
  unfold wpList
  rw [if_pos hgd]
  subst hcs
  refine .inl (wp_store_mid ty x y ho g off vs.toArray hx hy (h.there (by simpa using hn)) (by simpa using hi) (all_oneCell_toArray fun v hv => List.all_eq_true.1 h1 v hv) ?_)
  simp only [List.toList_toArray]
  exact hK _ (setCells_Blk vs w cs off h hn) (setCells_only vs w off)
/-- A struct is the result. -/
theorem results_blk {fn : Func} {p : Tmp} {ty : TypeId} (hr : fn.results = #[.cell p ty]) (h : Blk w g t cs) (tmps : Array Value) {d : TypeDesc} (hp : tmps.getD p undef = .pointer (some ⟨g, 0, none⟩))
    (hu : P.underlying ty = some d) (hd : d.isRow = true) (hi : (P.info? ty).map (·.size) = some cs.size) : (results fn tmps).run P w = .ok (.agg cs) w :=
  results_cell_row hr tmps w g t cs (0, 0) d hp h hu (by cases d <;> simp_all) hi
end
theorem sz_impl_Format : (Try.prog.info? 40).map (·.size) = some 3 := by kernel_rfl
theorem sz_impl_Receiver : (Try.prog.info? 43).map (·.size) = some 5 := by kernel_rfl
theorem sz_impl_Sender : (Try.prog.info? 44).map (·.size) = some 4 := by kernel_rfl
theorem sz_impl_Modem : (Try.prog.info? 45).map (·.size) = some 4 := by kernel_rfl
theorem sz_impl_Port : (Try.prog.info? 47).map (·.size) = some 18 := by kernel_rfl
theorem sz_impl_Pair : (Try.prog.info? 126).map (·.size) = some 36 := by kernel_rfl
theorem sz_impl_Driver : (Try.prog.info? 49).map (·.size) = some 22 := by kernel_rfl
theorem sz_impl_Link : (Try.prog.info? 51).map (·.size) = some 44 := by kernel_rfl
theorem sz_impl_portEnds : (Try.prog.info? 108).map (·.size) = some 9 := by kernel_rfl
theorem sz_impl_Got : (Try.prog.info? 64).map (·.size) = some 2 := by kernel_rfl
theorem sz_laws_Format : (Try.prog.info? 23).map (·.size) = some 3 := by kernel_rfl
theorem sz_laws_Receiver : (Try.prog.info? 26).map (·.size) = some 5 := by kernel_rfl
theorem sz_laws_Sender : (Try.prog.info? 29).map (·.size) = some 4 := by kernel_rfl
theorem sz_laws_Modem : (Try.prog.info? 31).map (·.size) = some 4 := by kernel_rfl
theorem sz_laws_Port : (Try.prog.info? 33).map (·.size) = some 18 := by kernel_rfl
theorem sz_laws_Driver : (Try.prog.info? 35).map (·.size) = some 22 := by kernel_rfl
theorem sz_laws_Link : (Try.prog.info? 37).map (·.size) = some 44 := by kernel_rfl
theorem sz_laws_Got : (Try.prog.info? 132).map (·.size) = some 2 := by kernel_rfl
theorem sz_impl_Fifo : (Try.prog.info? 144).map (·.size) = some 2 := by kernel_rfl
theorem Blk.now {w0 w : World} {g : Nat} {t : TypeId} {cs : Array Value} (_F : Blk w0 g t cs) (h : Blk w g t cs) : Blk w g t cs := h
end Go.Proofs.Ytdnjdbafffifeaa
