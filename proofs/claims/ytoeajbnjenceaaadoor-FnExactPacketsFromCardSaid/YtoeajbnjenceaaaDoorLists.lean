/-
  LISTS OF LISTS OF INTEGERS IN MEMORY: read, owned, appended to. Condition: at most 2^40 elements.
-/
import Derived.Test.YtoeajbnjenceaaaDoorAppend
set_option linter.unusedVariables false
set_option linter.unusedSimpArgs false
namespace Go.Proofs.YtoeajbnjenceaaaDoor
open Go.ChangeShapes Go.WideShapes Go.ChangeAt Go.RowKit

/-- A slice: its address, its length, its capacity. -/
abbrev Sl := Option Addr × Nat × Nat
def slv (s : Sl) : Value := .slice s.1 s.2.1 s.2.2
theorem lst_info : (Tryd.prog.info? 22).map (fun i => (i.zero, i.size, i.bytes)) = some (some (.slice none 0 0), 1, 24) := by kernel_rfl
/-- The slice '.slice A n c' holds the slices ss, which hold the lists xss. -/
def Lists (w : World) (A : Option Addr) (n : Nat) (ss : List Sl) (xss : List (List Int)) : Prop :=
  Reads w w.heap.size 1 A n (ss.map slv) ∧ xss.length = n ∧ ∀ (k : Nat) (s : Sl) (xs : List Int), ss[k]? = some s → xss[k]? = some xs → Ints w s.1 s.2.1 xs ∧ s.2.1 ≤ s.2.2 ∧ s.2.2 ≤ maxLen
section
variable {w w' : World} {A : Option Addr} {n : Nat} {ss : List Sl} {xss : List (List Int)}
theorem Lists.len (h : Lists w A n ss xss) : xss.length = n := h.2.1
theorem Lists.slen (h : Lists w A n ss xss) : ss.length = n := by simpa using h.1.1
theorem Lists.below (h : Lists w A n ss xss) (hb : Below w.heap.size w w') : Lists w' A n ss xss := ⟨(Reads.below h.1 hb).more hb.size, h.2.1, fun k s xs h1 h2 => ⟨(h.2.2 k s xs h1 h2).1.below hb, (h.2.2 k s xs h1 h2).2⟩⟩
theorem Lists.alloc (h : Lists w A n ss xss) (o : Obj) : Lists (w.alloc o) A n ss xss := h.below (b_alloc (b_refl _) _)
theorem Lists.drewN (h : Lists w A n ss xss) (k : Nat) : Lists (w.drewN k) A n ss xss := h
theorem Lists.drew (h : Lists w A n ss xss) : Lists w.drew A n ss xss := h
theorem Lists.at_ {k : Nat} (h : Lists w A n ss xss) (hk : k < n) : ∃ (b o : Nat) (B : Option Addr) (m c : Nat) (xs : List Int), A = some ⟨b, o, none⟩ ∧ b < w.heap.size ∧ ss[k]? = some (B, m, c) ∧ xss[k]? = some xs ∧ w.cell? ⟨b, o + k, none⟩ = some (.slice B m c) ∧ Ints w B m xs ∧ m ≤ c ∧ c ≤ maxLen := by
  obtain ⟨b, o, u, hA, hb, hu, hc⟩ := Reads.at_ h.1 hk
  simp only [List.getElem?_map, Option.map_eq_some_iff] at hu
  obtain ⟨⟨B, m, c⟩, hs, rfl⟩ := hu
  have hl := h.len
  have hxs : xss[k]? = some (xss[k]'(by omega)) := List.getElem?_eq_getElem (by omega)
  obtain ⟨h1, h2, h3⟩ := h.2.2 k _ _ hs hxs
  exact ⟨b, o, B, m, c, _, hA, hb, hs, hxs, hc, h1, h2, h3⟩
theorem Lists.take (h : Lists w A n ss xss) {k : Nat} (hk : k ≤ n) : Lists w A k (ss.take k) (xss.take k) := by
  have h1 := Reads.take h.1 hk
  rw [← List.map_take] at h1
  refine ⟨h1, by rw [List.length_take, h.len]; omega, fun i s xs hi hx => ?_⟩
  rw [List.getElem?_take] at hi hx
  split at hi
  · rename_i hik
    rw [if_pos hik] at hx
    exact h.2.2 i s xs hi hx
  · cases hi
theorem Lists.drop {b o : Nat} (h : Lists w (some ⟨b, o, none⟩) n ss xss) {k : Nat} (hk : k ≤ n) : Lists w (some ⟨b, o + k, none⟩) (n - k) (ss.drop k) (xss.drop k) := by
  have hl := h.slen
  refine ⟨⟨by simp; omega, fun h0 => ⟨_, rfl, ?_, fun j u hu => ?_⟩⟩, by rw [List.length_drop, h.len], fun i s xs hi hx => ?_⟩
  · obtain ⟨ad, e, hb, _⟩ := h.1.2 (by omega)
    injection e with e
    subst e
    exact hb
  · obtain ⟨ad, e, _, hc⟩ := h.1.2 (by omega)
    injection e with e
    subst e
    have := hc (k + j) u (by simpa using hu)
    rw [add_none] at this ⊢
    rw [← this, Nat.add_assoc]
  · rw [List.getElem?_drop] at hi hx
    exact h.2.2 _ s xs hi hx
end

/-- A row of other elements lies in another block. -/
theorem own_other {w : World} {base base' n n' : Nat} {e e' : TypeId} {v v' : Value} {xs xs' : List Value} (h : w.ownsRow base e 1 v n xs) (h' : w.ownsRow base' e' 1 v' n' xs') (hne : e ≠ e') : v.ownBlock = none ∨ v.ownBlock ≠ v'.ownBlock := by
  rcases h.2 with ⟨rfl, _⟩ | ⟨g, cap, cur, rfl, _, hg, _⟩
  · exact .inl (by simp [Value.ownBlock])
  · rcases h'.2 with ⟨rfl, _⟩ | ⟨g', cap', cur', rfl, _, hg', _⟩
    · exact .inr (by simp [Value.ownBlock])
    · refine .inr (fun e0 => ?_)
      have : g = g' := by simpa [Value.ownBlock] using e0
      subst this
      rw [hg] at hg'
      injection hg' with hg'
      injection hg' with _ ht
      exact hne ht
/-- Blocks from lo up to hi may have turned, and new ones have come. -/
def Outside (lo hi : Nat) (w w' : World) : Prop := w'.os = w.os ∧ w'.tape = w.tape ∧ w'.output = w.output ∧ w.heap.size ≤ w'.heap.size ∧ ∀ k, k < w.heap.size → (k < lo ∨ hi ≤ k) → w'.heap[k]? = w.heap[k]?
theorem Outside.refl (lo hi : Nat) (w : World) : Outside lo hi w w := ⟨rfl, rfl, rfl, Nat.le_refl _, fun _ _ _ => rfl⟩
theorem Outside.grown {lo hi : Nat} {w w' w'' : World} {r : Option Nat} (h : Outside lo hi w w') (hg : w'.grownBy w'' r) (hr : ∀ g, r = some g → lo ≤ g ∧ g < hi) : Outside lo hi w w'' :=
  ⟨hg.os.trans h.1, hg.tape.trans h.2.1, hg.output.trans h.2.2.1, Nat.le_trans h.2.2.2.1 hg.size, fun k hk ho => (hg.block k (Nat.lt_of_lt_of_le hk h.2.2.2.1) (fun e => by have := hr k e.symm; omega)).trans (h.2.2.2.2 k hk ho)⟩
theorem Outside.below {lo hi B : Nat} {a w w' : World} (h : Outside lo hi w w') (hb : Below B a w) (hB : B ≤ w.heap.size) (hlo : B ≤ lo) : Below B a w' :=
  ⟨h.1.trans hb.os, h.2.1.trans hb.tape, h.2.2.1.trans hb.output, Nat.le_trans hb.size h.2.2.2.1, fun k hk => (h.2.2.2.2 k (by omega) (.inl (by omega))).trans (hb.block k hk)⟩
theorem own_outside {lo hi : Nat} {w w' : World} {base n size : Nat} {e : TypeId} {v : Value} {xs : List Value} (h : w.ownsRow base e size v n xs) (ho : Outside lo hi w w') (hv : ∀ g, v.ownBlock = some g → g < lo ∨ hi ≤ g) : w'.ownsRow base e size v n xs := by
  refine ⟨h.1, ?_⟩
  rcases h.2 with h0 | ⟨g, cap, cur, rfl, hb, hg, hr⟩
  · exact .inl h0
  · exact .inr ⟨g, cap, cur, rfl, hb, (ho.2.2.2.2 g (h.lt g rfl).2 (hv g rfl)).trans hg, hr⟩
/-- Rows of the call's own, each in a block of its own. -/
def Owns (w : World) (base : Nat) (ss : List Sl) (xss : List (List Int)) : Prop :=
  ss.length = xss.length ∧ (∀ (k : Nat) (s : Sl) (xs : List Int), ss[k]? = some s → xss[k]? = some xs → w.ownsRow base 3 1 (slv s) s.2.1 (xs.map (Value.int .i64))) ∧
    ∀ (j k : Nat) (s t : Sl), j < k → ss[j]? = some s → ss[k]? = some t → (slv t).ownBlock = none ∨ (slv t).ownBlock ≠ (slv s).ownBlock
/-- A list of lists of the call's own. -/
def OwnLists (w : World) (base : Nat) (v : Value) (n : Nat) (ss : List Sl) (xss : List (List Int)) : Prop := w.ownsRow base 22 1 v n (ss.map slv) ∧ Owns w base ss xss
section
variable {w w' : World} {base n : Nat} {v : Value} {ss : List Sl} {xss : List (List Int)}
theorem Owns.nil (w : World) (base : Nat) : Owns w base [] [] := ⟨rfl, fun k s xs h => by simp at h, fun j k s t _ h => by simp at h⟩
theorem Owns.get (h : Owns w base ss xss) {k : Nat} {s : Sl} (hs : ss[k]? = some s) : ∃ xs, xss[k]? = some xs ∧ w.ownsRow base 3 1 (slv s) s.2.1 (xs.map (Value.int .i64)) := by
  have hk : k < xss.length := by rw [← h.1]; exact (List.getElem?_eq_some_iff.1 hs).1
  have hx : xss[k]? = some xss[k] := List.getElem?_eq_getElem hk
  exact ⟨_, hx, h.2.1 k s _ hs hx⟩
theorem Owns.kept {r : Option Nat} (h : Owns w base ss xss) (hg : w.grownBy w' r) (hr : ∀ (k : Nat) (s : Sl), ss[k]? = some s → (slv s).ownBlock = none ∨ (slv s).ownBlock ≠ r) : Owns w' base ss xss :=
  ⟨h.1, fun k s xs h1 h2 => (h.2.1 k s xs h1 h2).kept hg (hr k s h1), h.2.2⟩
theorem Owns.below (h : Owns w base ss xss) (hb : Below w.heap.size w w') : Owns w' base ss xss := ⟨h.1, fun k s xs h1 h2 => own_below (h.2.1 k s xs h1 h2) hb, h.2.2⟩
theorem Owns.alloc (h : Owns w base ss xss) (o : Obj) : Owns (w.alloc o) base ss xss := h.below (b_alloc (b_refl _) _)
theorem Owns.mono {base' : Nat} (h : Owns w base ss xss) (hb : base' ≤ base) : Owns w base' ss xss := ⟨h.1, fun k s xs h1 h2 => own_mono (h.2.1 k s xs h1 h2) hb, h.2.2⟩
theorem Owns.only {g : Nat} (h : Owns w base ss xss) (hg : w.grownBy w' (some g)) (hlt : g < base) : Owns w' base ss xss := ⟨h.1, fun k s xs h1 h2 => own_only (h.2.1 k s xs h1 h2) hg hlt, h.2.2⟩
theorem Owns.outside {lo hi : Nat} (h : Owns w base ss xss) (ho : Outside lo hi w w') (hv : ∀ (k : Nat) (s : Sl) (g : Nat), ss[k]? = some s → (slv s).ownBlock = some g → g < lo ∨ hi ≤ g) : Owns w' base ss xss :=
  ⟨h.1, fun k s xs h1 h2 => own_outside (h.2.1 k s xs h1 h2) ho (fun g => hv k s g h1), h.2.2⟩
theorem Owns.lt (h : Owns w base ss xss) {k : Nat} {s : Sl} (hs : ss[k]? = some s) {g : Nat} (hg : (slv s).ownBlock = some g) : base ≤ g ∧ g < w.heap.size := by
  obtain ⟨xs, _, ho⟩ := h.get hs
  exact ho.lt g hg
/-- One row more, made later. -/
theorem Owns.snoc {s : Sl} {xs : List Int} (h : Owns w base ss xss) (hs : w.ownsRow base 3 1 (slv s) s.2.1 (xs.map (Value.int .i64))) (hn : ∀ (k : Nat) (t : Sl), ss[k]? = some t → (slv s).ownBlock = none ∨ (slv s).ownBlock ≠ (slv t).ownBlock) : Owns w base (ss ++ [s]) (xss ++ [xs]) := by
  refine ⟨by simp [h.1], fun k t ys h1 h2 => ?_, fun j k t u hjk h1 h2 => ?_⟩
  · by_cases hk : k < ss.length
    · rw [List.getElem?_append_left hk] at h1
      rw [List.getElem?_append_left (by rw [← h.1]; exact hk)] at h2
      exact h.2.1 k t ys h1 h2
    · have hk2 : k = ss.length := by
        have := (List.getElem?_eq_some_iff.1 h1).1
        simp at this
        omega
      subst hk2
      simp at h1
      rw [h.1] at h2
      simp at h2
      subst h1; subst h2
      exact hs
  · by_cases hk : k < ss.length
    · rw [List.getElem?_append_left (by omega)] at h1
      rw [List.getElem?_append_left hk] at h2
      exact h.2.2 j k t u hjk h1 h2
    · have hk2 : k = ss.length := by
        have := (List.getElem?_eq_some_iff.1 h2).1
        simp at this
        omega
      subst hk2
      rw [List.getElem?_append_left (by omega)] at h1
      simp at h2
      subst h2
      exact hn j t h1
theorem OwnLists.below (h : OwnLists w base v n ss xss) (hb : Below w.heap.size w w') : OwnLists w' base v n ss xss := ⟨own_below h.1 hb, h.2.below hb⟩
theorem OwnLists.slen (h : OwnLists w base v n ss xss) : ss.length = n := by simpa using h.1.1
theorem OwnLists.len (h : OwnLists w base v n ss xss) : xss.length = n := by rw [← h.2.1]; exact h.slen
theorem OwnLists.read {A : Option Addr} {c : Nat} (h : OwnLists w base (.slice A n c) n ss xss) : Lists w A n ss xss :=
  ⟨Reads.of_own h.1, h.len, fun k s xs h1 h2 => by
    have ho := h.2.2.1 k s xs h1 h2
    exact ⟨Ints.of_own (A := s.1) (c := s.2.2) ho, own_cap (A := s.1) (c := s.2.2) ho⟩⟩
theorem OwnLists.mono {base' : Nat} (h : OwnLists w base v n ss xss) (hb : base' ≤ base) : OwnLists w base' v n ss xss := ⟨own_mono h.1 hb, h.2.mono hb⟩
end

/-- What an append of slices leaves. -/
theorem wp_appS {o : Oper} {a : Act} {K : Act → World → Prop} {Q : Exit → Act → World → Prop} {w : World} {base : Nat} {v : Value} {n : Nat} {ss : List Sl} {A : Option Addr} {m c : Nat} {ts : List Sl}
    (hown : w.ownsRow base 22 1 v n (ss.map slv)) (hr : Reads w w.heap.size 1 A m (ts.map slv)) (s x : Operand)
    (ho : o.op = .call { callee := .builtin .append, args := #[s, x], argTypes := #[23, 23] }) (hs : a.eval s = v) (hx : a.eval x = .slice A m c) (k : Nat) (hk : n + m = k) (hnm : k ≤ 1099511627776) (hbase : base ≤ w.heap.size)
    (h : ∀ (A' : Option Addr) (c' : Nat) (w' : World), w'.ownsRow base 22 1 (.slice A' k c') k ((ss ++ ts).map slv) → w.grownBy w' v.ownBlock → (Value.slice A' k c').ownBlock = v.ownBlock ∨ (Value.slice A' k c').ownBlock = some w.heap.size → k ≤ c' → c' ≤ maxLen → K (a.put o.dst (.slice A' k c')) w') : o.wp Tryd.prog a w K Q := by
  subst hk
  obtain ⟨i0, hi0, hz0, hz1, hz2⟩ := info_parts lst_info
  obtain ⟨v', w', hrun, h2, h3, h4⟩ := run_app (P := Tryd.prog) w base 23 o.type 22 i0 (.slice none 0 0) 1 24 Tryd.underlying23 hi0 hz0 hz1 hz2 rfl (by omega) v n _ hown w.heap.size A m c _ hr
    (fun u hu => by obtain ⟨x, _, rfl⟩ := List.mem_map.1 hu; rfl) (by unfold maxLen; omega) (by omega) hbase
  rw [← List.map_append] at h2
  obtain ⟨A', c', rfl, hc1, hc2⟩ := own_form h2
  unfold Oper.wp execOp
  simp only [ho, resolve, invoke, builtin, Sem.run_bind, Sem.run_pure, Result.andThen_ok, List.map_toArray, List.map_cons, List.map_nil, hs, hx, hrun]
  exact h A' c' w' h2 h3 h4 hc1 hc2
theorem wpList_appS {ops : Array Oper} {rest : List Oper} {o : Oper} {a : Act} {Q : Exit → Act → World → Prop} {w : World} {base : Nat} {v : Value} {n : Nat} {ss : List Sl} {A : Option Addr} {m c : Nat} {ts : List Sl}
    (hown : w.ownsRow base 22 1 v n (ss.map slv)) (hr : Reads w w.heap.size 1 A m (ts.map slv)) (hgd : o.guard = none) (s x : Operand)
    (ho : o.op = .call { callee := .builtin .append, args := #[s, x], argTypes := #[23, 23] }) (hs : a.eval s = v) (hx : a.eval x = .slice A m c) (k : Nat) (hk : n + m = k) (hnm : k ≤ 1099511627776) (hbase : base ≤ w.heap.size)
    (h : ∀ (A' : Option Addr) (c' : Nat) (w' : World), w'.ownsRow base 22 1 (.slice A' k c') k ((ss ++ ts).map slv) → w.grownBy w' v.ownBlock → (Value.slice A' k c').ownBlock = v.ownBlock ∨ (Value.slice A' k c').ownBlock = some w.heap.size → k ≤ c' → c' ≤ maxLen → wpList Tryd.prog ops Q rest (a.put o.dst (.slice A' k c')) w') : wpList Tryd.prog ops Q (o :: rest) a w :=
  wpList_plain hgd fun _ hK => wp_appS hown hr s x ho hs hx k hk hnm hbase fun A' c' w' h1 h2 h3 h4 h5 => hK _ _ (h A' c' w' h1 h2 h3 h4 h5)
theorem ownS_nil (w : World) (base : Nat) : w.ownsRow base 22 1 (.slice none 0 0) 0 (([] : List Sl).map slv) := World.ownsRow_nil _ _ _ _
theorem ownS_empty (w : World) (base : Nat) (h : base ≤ w.heap.size) : (w.alloc (.cells #[] 22)).ownsRow base 22 1 (.slice (some ⟨w.heap.size, 0, none⟩) 0 0) 0 (([] : List Sl).map slv) := by
  simpa using World.ownsRow_lit w #[] 0 (base := base) (e := 22) (size := 1) (by simpa using h) (by unfold maxLen; omega) rfl
/-- A block of slices read as a list. -/
theorem Reads.litS {w : World} {g : Nat} (ts : List Sl) (h : Blk w g 22 (ts.map slv).toArray) : Reads w w.heap.size 1 (some ⟨g, 0, none⟩) ts.length (ts.map slv) := by
  refine ⟨by simp, fun _ => ⟨_, rfl, h.lt, fun j u hu => ?_⟩⟩
  rw [add_none, Nat.zero_add, h.cell]
  simpa using hu
end Go.Proofs.YtoeajbnjenceaaaDoor
