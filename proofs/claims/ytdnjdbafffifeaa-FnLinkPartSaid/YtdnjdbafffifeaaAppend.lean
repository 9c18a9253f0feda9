/-
  APPENDING TO A LIST OF INTEGERS OF THE CALL's OWN, from whatever list (nil, empty or not), in a plain region and in one that draws its order.
-/
import Derived.Test.YtdnjdbafffifeaaInts
set_option linter.unusedVariables false
set_option linter.unusedSimpArgs false
namespace Go.Proofs.Ytdnjdbafffifeaa
open Go.ChangeShapes Go.WideShapes Go.ChangeAt Go.RowKit

section
variable {P : Program} (w : World)
theorem run_app_nil (base : Nat) (t ty e : TypeId) (i : TypeInfo) (size : Nat) (ht : P.underlying t = some (.slice e)) (hi : P.info? e = some i)
    (v : Value) (n : Nat) (xs : List Value) (hown : w.ownsRow base e size v n xs) (c : Nat) : (Builtin.append_ #[t, t] ty #[v, .slice none 0 c]).run P w = .ok v w := by
  rcases hown.2 with ⟨rfl, rfl⟩ | ⟨g, cap, cur, rfl, _, _, hnc, _⟩
  · simp [Builtin.append_, run_underlying ht, sizeOf, typeInfo, hi, Builtin.lenOf, Builtin.firstCells]
  · simp [Builtin.append_, run_underlying ht, sizeOf, typeInfo, hi, Builtin.lenOf, Builtin.firstCells, hnc, storeCells]
theorem run_app (base : Nat) (t ty e : TypeId) (i : TypeInfo) (z : Value) (size bytes : Nat) (ht : P.underlying t = some (.slice e)) (hi : P.info? e = some i) (hz : i.zero = some z)
    (hsize : i.size = size) (hby : i.bytes = bytes) (hzs : z.cells.size = size) (hsz : 0 < size)
    (v : Value) (n : Nat) (xs : List Value) (hown : w.ownsRow base e size v n xs)
    (B : Nat) (A : Option Addr) (m c : Nat) (news : List Value) (hr : Reads w B size A m news) (h1 : ∀ u ∈ news, u.oneCell' = true)
    (h63 : n + m ≤ maxLen) (hbytes : (n + m) * bytes ≤ 140737488355328) (hbase : base ≤ w.heap.size) :
    ∃ v' w', (Builtin.append_ #[t, t] ty #[v, .slice A m c]).run P w = .ok v' w' ∧ w'.ownsRow base e size v' (n + m) (xs ++ news) ∧ w.grownBy w' v.ownBlock ∧
      (v'.ownBlock = v.ownBlock ∨ v'.ownBlock = some w.heap.size) := by
  rcases A with _ | ad
  · have hm : m = 0 := by
      rcases Nat.eq_zero_or_pos m with h0 | h0
      · exact h0
      · obtain ⟨ad, h, _⟩ := hr.2 h0
        cases h
    subst hm
    have hn : news = [] := List.eq_nil_of_length_eq_zero (by simpa using hr.1)
    subst hn
    exact ⟨v, w, run_app_nil w base t ty e i size ht hi v n xs hown c, by simpa using hown, World.grownBy.refl w _, .inl rfl⟩
  · have hcells : ∀ j u, news[j]? = some u → w.cell? (ad.add j) = some u := by
      intro j u hu
      rcases Nat.eq_zero_or_pos m with h0 | h0
      · subst h0
        have hn : news = [] := List.eq_nil_of_length_eq_zero (by simpa using hr.1)
        subst hn
        simp at hu
      · obtain ⟨ad', h, _, hc⟩ := hr.2 h0
        injection h with h
        subst h
        exact hc j u hu
    obtain ⟨v', w', hrun, h2, h3, _, h5⟩ := run_append_own_at (P := P) w base t ty e i z size bytes ht hi hz hsize hby hzs hsz v n xs hown ad m c news hr.1 hcells h1 h63 hbytes hbase
    exact ⟨v', w', hrun, h2, h3, h5⟩
end

/-- What an append leaves: a row of the call's own with the new elements behind, at its old place or in a new block. -/
theorem wp_app {o : Oper} {a : Act} {K : Act → World → Prop} {Q : Exit → Act → World → Prop} {w : World} {base : Nat} {v : Value} {n : Nat} {xs : List Int} {A : Option Addr} {m c : Nat} {ys : List Int}
    (hown : w.ownsRow base 3 1 v n (xs.map (Value.int .i64))) (hr : Ints w A m ys) (s x : Operand)
    (ho : o.op = .call { callee := .builtin .append, args := #[s, x], argTypes := #[27, 27] }) (hs : a.eval s = v) (hx : a.eval x = .slice A m c) (k : Nat) (hk : n + m = k) (hnm : k ≤ 1099511627776) (hbase : base ≤ w.heap.size)
    (h : ∀ (A' : Option Addr) (c' : Nat) (w' : World), w'.ownsRow base 3 1 (.slice A' k c') k ((xs ++ ys).map (Value.int .i64)) → w.grownBy w' v.ownBlock → (Value.slice A' k c').ownBlock = v.ownBlock ∨ (Value.slice A' k c').ownBlock = some w.heap.size → k ≤ c' → c' ≤ maxLen → K (a.put o.dst (.slice A' k c')) w') : o.wp Try.prog a w K Q := by
  subst hk
  obtain ⟨i0, hi0, hz0, hz1, hz2⟩ := info_parts int_info
  obtain ⟨v', w', hrun, h2, h3, h4⟩ := run_app (P := Try.prog) w base 27 o.type 3 i0 (.int .i64 0) 1 8 Try.underlying27 hi0 hz0 hz1 hz2 rfl (by omega) v n _ hown w.heap.size A m c _ hr
    (fun u hu => by obtain ⟨x, _, rfl⟩ := List.mem_map.1 hu; rfl) (by unfold maxLen; omega) (by omega) hbase
  rw [← List.map_append] at h2
  obtain ⟨A', c', rfl, hc1, hc2⟩ := own_form h2
  unfold Oper.wp execOp
  simp only [ho, resolve, invoke, builtin, Sem.run_bind, Sem.run_pure, Result.andThen_ok, List.map_toArray, List.map_cons, List.map_nil, hs, hx, hrun]
  exact h A' c' w' h2 h3 h4 hc1 hc2
theorem wpList_app {ops : Array Oper} {rest : List Oper} {o : Oper} {a : Act} {Q : Exit → Act → World → Prop} {w : World} {base : Nat} {v : Value} {n : Nat} {xs : List Int} {A : Option Addr} {m c : Nat} {ys : List Int}
    (hown : w.ownsRow base 3 1 v n (xs.map (Value.int .i64))) (hr : Ints w A m ys) (hgd : o.guard = none) (s x : Operand)
    (ho : o.op = .call { callee := .builtin .append, args := #[s, x], argTypes := #[27, 27] }) (hs : a.eval s = v) (hx : a.eval x = .slice A m c) (k : Nat) (hk : n + m = k) (hnm : k ≤ 1099511627776) (hbase : base ≤ w.heap.size)
    (h : ∀ (A' : Option Addr) (c' : Nat) (w' : World), w'.ownsRow base 3 1 (.slice A' k c') k ((xs ++ ys).map (Value.int .i64)) → w.grownBy w' v.ownBlock → (Value.slice A' k c').ownBlock = v.ownBlock ∨ (Value.slice A' k c').ownBlock = some w.heap.size → k ≤ c' → c' ≤ maxLen → wpList Try.prog ops Q rest (a.put o.dst (.slice A' k c')) w') : wpList Try.prog ops Q (o :: rest) a w :=
  wpList_plain hgd fun _ hK => wp_app hown hr s x ho hs hx k hk hnm hbase fun A' c' w' h1 h2 h3 h4 h5 => hK _ _ (h A' c' w' h1 h2 h3 h4 h5)
/-- Is it this append? -/
theorem at_app {P : Program} {ops : Array Oper} {rest : List Oper} {o : Oper} {a : Act} {Q : Exit → Act → World → Prop} {w : World} (s x : Operand) {ts : Array TypeId}
    (_ho : o.op = .call { callee := .builtin .append, args := #[s, x], argTypes := ts }) (h : wpList P ops Q (o :: rest) a w) : wpList P ops Q (o :: rest) a w := h
theorem at_apps {P : Program} {ops : Array Oper} {o : Oper} {a : Act} {K : Act → World → Prop} {Q : Exit → Act → World → Prop} {E : Prop} {w : World} (s x : Operand) {ts : Array TypeId}
    (_ho : o.op = .call { callee := .builtin .append, args := #[s, x], argTypes := ts }) (h : if Region.wanted o (yielded ops a.tmps) = true then Oper.wp P o a w K Q else E) : if Region.wanted o (yielded ops a.tmps) = true then Oper.wp P o a w K Q else E := h
theorem step_app {ops : Array Oper} {o : Oper} {a : Act} {K : Act → World → Prop} {Q : Exit → Act → World → Prop} {E : Prop} {w : World} {base : Nat} {v : Value} {n : Nat} {xs : List Int} {A : Option Addr} {m c : Nat} {ys : List Int}
    (hown : w.ownsRow base 3 1 v n (xs.map (Value.int .i64))) (hr : Ints w A m ys) (hgd : o.guard = none) (s x : Operand)
    (ho : o.op = .call { callee := .builtin .append, args := #[s, x], argTypes := #[27, 27] }) (hs : a.eval s = v) (hx : a.eval x = .slice A m c) (k : Nat) (hk : n + m = k) (hnm : k ≤ 1099511627776) (hbase : base ≤ w.heap.size)
    (h : ∀ (A' : Option Addr) (c' : Nat) (w' : World), w'.ownsRow base 3 1 (.slice A' k c') k ((xs ++ ys).map (Value.int .i64)) → w.grownBy w' v.ownBlock → (Value.slice A' k c').ownBlock = v.ownBlock ∨ (Value.slice A' k c').ownBlock = some w.heap.size → k ≤ c' → c' ≤ maxLen → K (a.put o.dst (.slice A' k c')) w') :
    if Region.wanted o (yielded ops a.tmps) = true then Oper.wp Try.prog o a w K Q else E := by
  have hw : Region.wanted o (yielded ops a.tmps) = true := by simp [Region.wanted, hgd]
  rw [if_pos hw]
  exact wp_app hown hr s x ho hs hx k hk hnm hbase h
/-- Carried over what the walk made since. -/
theorem Ints.lift {w0 w : World} {A : Option Addr} {n : Nat} {xs : List Int} (_h0 : Ints w0 A n xs) (h : Ints w A n xs) : Ints w A n xs := h
theorem own_lift {w0 w : World} {base n : Nat} {e : TypeId} {v : Value} {xs : List Value} (_h0 : w0.ownsRow base e 1 v n xs) (h : w.ownsRow base e 1 v n xs) : w.ownsRow base e 1 v n xs := h
theorem own_cap {w : World} {base n c : Nat} {e : TypeId} {A : Option Addr} {ys : List Value} (h : w.ownsRow base e 1 (.slice A n c) n ys) : n ≤ c ∧ c ≤ maxLen := by
  obtain ⟨A', c', e, h1, h2⟩ := own_form h
  injection e with _ _ e
  subst e
  exact ⟨h1, h2⟩
theorem own_drewN {w : World} {base n : Nat} {e : TypeId} {v : Value} {xs : List Value} (h : w.ownsRow base e 1 v n xs) (k : Nat) : (w.drewN k).ownsRow base e 1 v n xs := h
/-- The empty list, as nil and as a literal. -/
theorem own_nil (w : World) (base : Nat) : w.ownsRow base 3 1 (.slice none 0 0) 0 (([] : List Int).map (Value.int .i64)) := World.ownsRow_nil _ _ _ _
theorem own_empty (w : World) (base : Nat) (h : base ≤ w.heap.size) : (w.alloc (.cells #[] 3)).ownsRow base 3 1 (.slice (some ⟨w.heap.size, 0, none⟩) 0 0) 0 (([] : List Int).map (Value.int .i64)) := by
  simpa using World.ownsRow_lit w #[] 0 (base := base) (e := 3) (size := 1) (by simpa using h) (by unfold maxLen; omega) rfl
/-- A block of integers read as a list. -/
theorem Ints.lit {w : World} {g : Nat} (zs : List Int) (h : Blk w g 3 (zs.map (Value.int .i64)).toArray) : Ints w (some ⟨g, 0, none⟩) zs.length zs := by
  refine ⟨by simp, fun _ => ⟨_, rfl, h.lt, fun j u hu => ?_⟩⟩
  rw [add_none, Nat.zero_add, h.cell]
  simpa using hu
theorem Ints.take {w : World} {A : Option Addr} {n : Nat} {xs : List Int} (h : Ints w A n xs) {k : Nat} (hk : k ≤ n) : Ints w A k (xs.take k) := by
  have := Reads.take h hk
  rwa [← List.map_take] at this
/-- The rest of a list behind place k. -/
theorem Ints.drop {w : World} {b o : Nat} {n : Nat} {xs : List Int} (h : Ints w (some ⟨b, o, none⟩) n xs) {k : Nat} (hk : k ≤ n) : Ints w (some ⟨b, o + k, none⟩) (n - k) (xs.drop k) := by
  have hl := h.len
  refine ⟨by simp; omega, fun h0 => ⟨_, rfl, ?_, fun j u hu => ?_⟩⟩
  · obtain ⟨ad, e, hb, _⟩ := h.2 (by omega)
    injection e with e
    subst e
    exact hb
  · obtain ⟨ad, e, _, hc⟩ := h.2 (by omega)
    injection e with e
    subst e
    have := hc (k + j) u (by simpa using hu)
    rw [add_none] at this ⊢
    rw [← this, Nat.add_assoc]
theorem Ints.setCell {w : World} {A : Option Addr} {n : Nat} {xs : List Int} (h : Ints w A n xs) {p : Addr} (hp : ∀ a, A = some a → a.block ≠ p.block) (u : Value) : Ints (w.setCell p u) A n xs := by
  refine ⟨h.1, fun h0 => ?_⟩
  obtain ⟨ad, e, hb, hc⟩ := h.2 h0
  exact ⟨ad, e, by simpa [World.setCell] using hb, fun j v hv => (World.cell?_setCell_other w p _ u (fun e2 => hp ad e (by have h := congrArg Addr.block e2; simp only [block_of_add] at h; first | exact h | exact h.symm))).trans (hc j v hv)⟩
end Go.Proofs.Ytdnjdbafffifeaa
