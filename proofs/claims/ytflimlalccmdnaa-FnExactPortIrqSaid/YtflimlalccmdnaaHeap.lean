/-
  THE HEAP OF INTERRUPTS: irqHeap's Len, Less, Swap, Push, Pop, and heap.Push, heap.Pop over it. Condition: at most 8 elements.
-/
import Derived.Test.YtflimlalccmdnaaInts
import Derived.Test.YtflimlalccmdnaaAppend
import Derived.Handy
set_option linter.unusedVariables false
set_option linter.unusedSimpArgs false
namespace Go.Proofs.Ytflimlalccmdnaa
open Go.ChangeShapes Go.WideShapes Go.ChangeAt Go.RowKit

theorem chk {P : Program} (xt : TypeId) (a : Addr) (s m : String) (w : World) : (Builtin.ssaWrapNilChk_ #[xt] xt #[.pointer (some a), strVal s, strVal m]).run P w = .ok (.pointer (some a)) w := by
  first | rfl | (unfold Builtin.ssaWrapNilChk_ strVal; rfl)
/-- A method of a value, called through a pointer in an interface: what the pointer leads to is read. -/
theorem meth_val {P : Program} {t e : TypeId} {name : String} {f : FuncId} (hu : P.underlying t = some (.pointer e)) (hm : (P.info? t).map (fun i => (i.methods.find? (·.name == name)).map fun m => (m.path.toList.length, m.func)) = some (some (0, some (f, false))))
    (N : Nat) (g : Nat) (w : World) (v : Value) (hl : (loadVar e ⟨g, 0, none⟩).run P w = .ok v w) : (method (N + 1) t (.pointer (some ⟨g, 0, none⟩)) name).run P w = .ok (f, v) w := by
  simp only [Option.map_eq_some_iff] at hm
  obtain ⟨i, hi, m, hf, hm2⟩ := hm
  injection hm2 with h1 h2
  have hp : m.path = #[] := by
    have := List.eq_nil_of_length_eq_zero h1
    simpa using this
  unfold method
  simp [typeInfo, hi, hf, hp, h2, follow, receiverAt, run_underlying hu, Place.get, asAddr, chk, hl]
theorem ld_heap {g : Nat} {w : World} {A : Option Addr} {n c : Nat} (h : w.cell? ⟨g, 0, none⟩ = some (.slice A n c)) : (loadVar 74 ⟨g, 0, none⟩).run Try.prog w = .ok (.slice A n c) w := by
  go_simp
theorem m_Len (g : Nat) (A : Option Addr) (n c : Nat) (w : World) (h : w.cell? ⟨g, 0, none⟩ = some (.slice A n c)) : (method 240 72 (.pointer (some ⟨g, 0, none⟩)) "Len").run Try.prog w = .ok (42, .slice A n c) w :=
  meth_val Try.underlying72 (by kernel_rfl) 239 g w _ (ld_heap h)
theorem m_Less (g : Nat) (A : Option Addr) (n c : Nat) (w : World) (h : w.cell? ⟨g, 0, none⟩ = some (.slice A n c)) : (method 240 72 (.pointer (some ⟨g, 0, none⟩)) "Less").run Try.prog w = .ok (93, .slice A n c) w :=
  meth_val Try.underlying72 (by kernel_rfl) 239 g w _ (ld_heap h)
theorem m_Swap (g : Nat) (A : Option Addr) (n c : Nat) (w : World) (h : w.cell? ⟨g, 0, none⟩ = some (.slice A n c)) : (method 240 72 (.pointer (some ⟨g, 0, none⟩)) "Swap").run Try.prog w = .ok (96, .slice A n c) w :=
  meth_val Try.underlying72 (by kernel_rfl) 239 g w _ (ld_heap h)
theorem m_Push (g : Nat) (w : World) : (method 240 72 (.pointer (some ⟨g, 0, none⟩)) "Push").run Try.prog w = .ok (95, .pointer (some ⟨g, 0, none⟩)) w := by kernel_rfl
theorem m_Pop (g : Nat) (w : World) : (method 240 72 (.pointer (some ⟨g, 0, none⟩)) "Pop").run Try.prog w = .ok (94, .pointer (some ⟨g, 0, none⟩)) w := by kernel_rfl

def kindCells (ks : List (Int × Int × Int)) : List Value := ks.flatMap fun k => [.int .i64 k.1, .int .i64 k.2.1, .int .i64 k.2.2]
theorem kindCells_length (ks : List (Int × Int × Int)) : (kindCells ks).length = ks.length * 3 := by
  induction ks with
  | nil => rfl
  | cons k ks ih => simp only [kindCells, List.flatMap_cons, List.length_append, List.length_cons] at ih ⊢; simp at ih ⊢; omega
theorem kindCells_append (ks js : List (Int × Int × Int)) : kindCells (ks ++ js) = kindCells ks ++ kindCells js := by simp [kindCells]
theorem kindCells_at {ks : List (Int × Int × Int)} {k : Nat} {a b d : Int} (h : ks[k]? = some (a, b, d)) : (kindCells ks)[k * 3]? = some (.int .i64 a) ∧ (kindCells ks)[k * 3 + 1]? = some (.int .i64 b) ∧ (kindCells ks)[k * 3 + 2]? = some (.int .i64 d) := by
  induction ks generalizing k with
  | nil => simp at h
  | cons x ks ih =>
    cases k with
    | zero => simp at h; subst h; simp [kindCells]
    | succ k =>
      simp at h
      have := ih h
      have e1 : (k + 1) * 3 = k * 3 + 3 := by omega
      rw [e1]
      simp only [kindCells, List.flatMap_cons] at this ⊢
      exact this
theorem kindCells_set {ks : List (Int × Int × Int)} {k : Nat} (h : k < ks.length) (a b d : Int) : (((kindCells ks).set (k * 3) (.int .i64 a)).set (k * 3 + 1) (.int .i64 b)).set (k * 3 + 2) (.int .i64 d) = kindCells (ks.set k (a, b, d)) := by
  induction ks generalizing k with
  | nil => simp at h
  | cons x ks ih =>
    cases k with
    | zero => simp [kindCells]
    | succ k =>
      simp at h
      have := ih h
      have e1 : (k + 1) * 3 = k * 3 + 3 := by omega
      rw [e1]
      simp only [kindCells, List.flatMap_cons, List.set_cons_succ] at this ⊢
      rw [← this]
      rfl
theorem kind_info : (Try.prog.info? 76).map (fun i => (i.zero, i.size, i.bytes)) = some (some (.agg #[.int .i64 0, .int .i64 0, .int .i64 0]), 3, 24) := by kernel_rfl
def Kinds (w : World) (A : Option Addr) (n : Nat) (ks : List (Int × Int × Int)) : Prop := Reads w w.heap.size 3 A n (kindCells ks)
theorem Kinds.one {w : World} {g : Nat} {a b d : Int} (h : Blk w g 76 #[.int .i64 a, .int .i64 b, .int .i64 d]) : Kinds w (some ⟨g, 0, none⟩) 1 [(a, b, d)] := by
  refine ⟨rfl, fun _ => ⟨_, rfl, h.lt, fun j u hu => ?_⟩⟩
  rw [add_none, Nat.zero_add, h.cell]
  simpa [kindCells] using hu
theorem own_form3 {w : World} {base n : Nat} {e : TypeId} {v : Value} {ys : List Value} (h : w.ownsRow base e 3 v n ys) : ∃ A c, v = .slice A n c ∧ n ≤ c ∧ c ≤ maxLen := by
  rcases h.2 with ⟨rfl, h0⟩ | ⟨g, cap, cur, rfl, _, _, h1, h2, _⟩
  · subst h0
    have h3 := h.1
    simp at h3
    subst h3
    exact ⟨none, 0, rfl, Nat.le_refl _, by unfold maxLen; omega⟩
  · exact ⟨_, _, rfl, h1, h2⟩
theorem step_appK {ops : Array Oper} {o : Oper} {a : Act} {K : Act → World → Prop} {Q : Exit → Act → World → Prop} {E : Prop} {w : World} {base : Nat} {v : Value} {n : Nat} {gs : List (Int × Int × Int)} {A : Option Addr} {m c : Nat} {bs : List (Int × Int × Int)}
    (hown : w.ownsRow base 76 3 v n (kindCells gs)) (hr : Kinds w A m bs) (hgd : o.guard = none) (s x : Operand)
    (ho : o.op = .call { callee := .builtin .append, args := #[s, x], argTypes := #[74, 74] }) (hsv : a.eval s = v) (hx : a.eval x = .slice A m c) (k : Nat) (hk : n + m = k) (hnm : k ≤ 1099511627776) (hbase : base ≤ w.heap.size)
    (h : ∀ (A' : Option Addr) (c' : Nat) (w' : World), w'.ownsRow base 76 3 (.slice A' k c') k (kindCells (gs ++ bs)) → w.grownBy w' v.ownBlock → k ≤ c' → c' ≤ maxLen → K (a.put o.dst (.slice A' k c')) w') :
    if Region.wanted o (yielded ops a.tmps) = true then Oper.wp Try.prog o a w K Q else E := by
  have hw : Region.wanted o (yielded ops a.tmps) = true := by simp [Region.wanted, hgd]
  rw [if_pos hw]
  subst hk
  obtain ⟨i0, hi0, hz0, hz1, hz2⟩ := info_parts kind_info
  obtain ⟨v', w', hrun, h2, h3, h4⟩ := run_app (P := Try.prog) w base 74 o.type 76 i0 (.agg #[.int .i64 0, .int .i64 0, .int .i64 0]) 3 24 Try.underlying74 hi0 hz0 hz1 hz2 rfl (by omega) v n _ hown w.heap.size A m c _ hr
    (fun u hu => by
      obtain ⟨g, _, hg⟩ := List.mem_flatMap.1 hu
      simp at hg
      rcases hg with rfl | rfl | rfl <;> rfl) (by unfold maxLen; omega) (by omega) hbase
  rw [← kindCells_append] at h2
  obtain ⟨A', c', rfl, hc1, hc2⟩ := own_form3 h2
  unfold Oper.wp execOp
  simp only [ho, resolve, invoke, builtin, Sem.run_bind, Sem.run_pure, Result.andThen_ok, List.map_toArray, List.map_cons, List.map_nil, hsv, hx, hrun]
  exact h A' c' w' h2 h3 hc1 hc2
/-- The heap at block hp holds ks; it and its row lie from block B on. -/
def HeapIs (w : World) (hp B : Nat) (ks : List (Int × Int × Int)) : Prop := ∃ (A : Option Addr) (n c : Nat), Blk w hp 74 #[.slice A n c] ∧ w.ownsRow B 76 3 (.slice A n c) n (kindCells ks) ∧ n ≤ c ∧ c ≤ maxLen
theorem HeapIs.len {w : World} {B n c : Nat} {A : Option Addr} {ks : List (Int × Int × Int)} (h : w.ownsRow B 76 3 (.slice A n c) n (kindCells ks)) : ks.length = n := by
  have := h.1
  rw [kindCells_length] at this
  omega
theorem HeapIs.lt {w : World} {hp B : Nat} {ks : List (Int × Int × Int)} (h : HeapIs w hp B ks) : hp < w.heap.size := by
  obtain ⟨A, n, c, h1, _⟩ := h
  exact h1.lt
theorem Blk.grownk {w w' : World} {base n size g : Nat} {e t : TypeId} {v : Value} {xs : List Value} {cs : Array Value} (hb : Blk w g t cs) (h : w.ownsRow base e size v n xs) (hne : e ≠ t) (hg : w.grownBy w' v.ownBlock) : Blk w' g t cs :=
  hb.grown hg (fun he => own_blk_ne h hb hne he.symm)
theorem own_setk {w : World} {base n size g : Nat} {e t : TypeId} {v : Value} {xs : List Value} {cs : Array Value} (h : w.ownsRow base e size v n xs) (hb : Blk w g t cs) (hne : e ≠ t) (i : Nat) (u : Value) : (w.setCell ⟨g, i, none⟩ u).ownsRow base e size v n xs :=
  h.kept (only_setCell (only_refl w (some g)) (.inl rfl) u) (.inr (own_blk_ne h hb hne))
theorem Len_any (A : Option Addr) (n c : Nat) (w : World) : Calls Try.prog 42 #[.slice A n c] w fun e w' => e = .returned (.int .i64 n) ∧ w = w' := by
  go_enter Try.func42, Try.ntmps42
  go_wp2
  go_ret
  exact ⟨rfl, rfl⟩
theorem ta_kind (a b d : Value) (w : World) : (Instr.typeAssert (.iface 76 (.agg #[a, b, d])) 20 76 false).run Try.prog w = .ok (.agg #[a, b, d]) w := by kernel_rfl
theorem Blk.to_ {w : World} {g : Nat} {t : TypeId} {cs cs' : Array Value} (h : Blk w g t cs) (e : cs = cs') : Blk w g t cs' := e ▸ h
set_option maxHeartbeats 2000000 in
theorem irqPush_any (hp B : Nat) (ks : List (Int × Int × Int)) (a b d : Int) (w : World) (h : HeapIs w hp B ks) (hB : B ≤ w.heap.size) (hhp : B ≤ hp) (hl : ks.length ≤ 7) :
    Calls Try.prog 95 #[.pointer (some ⟨hp, 0, none⟩), .iface 76 (.agg #[.int .i64 a, .int .i64 b, .int .i64 d])] w fun e w' => ∃ v, e = .returned v ∧ HeapIs w' hp B (ks ++ [(a, b, d)]) ∧ Below B w w' := by
  obtain ⟨A, n, c, H, own, hnc, hcm⟩ := h
  have hn := HeapIs.len own
  have hn7 : n ≤ 7 := by omega
  have x0 := H.cell 0
  simp at x0
  have H1 := (H.alloc (.cells #[.int .i64 a, .int .i64 b, .int .i64 d] 76)).drew
  have own1 := World.ownsRow.drew (own.alloc (.cells #[.int .i64 a, .int .i64 b, .int .i64 d] 76))
  have Hl := H.lt
  clear hn
  have ta := ta_kind
  go_enter Try.func95, Try.ntmps95
  go_wp2
  refine wp_region_any (by kernel_rfl) ?_
  change wpAny _ _ _ _ _ _ _ (World.drew _)
  refine wpAny_take (i := 0) (v := ?_) rfl (by kernel_rfl) (by kernel_rfl) (by kernel_rfl) (fun _ _ _ h => h) (Or.inl ⟨by rfl, ?_⟩) ?_
  rotate_left 1
  · (intro w; first | (go_simp; done) | (go_simp; with_reducible rfl))
  refine wpAny_take (i := 1) (v := ?_) rfl (by kernel_rfl) (by kernel_rfl) (by kernel_rfl) (fun _ _ _ h => h) (Or.inl ⟨by rfl, ?_⟩) ?_
  rotate_left 1
  · (intro w; first | (go_simp; done) | (go_simp; with_reducible rfl))
  refine wpAny_take (i := 4) (v := ?_) rfl (by kernel_rfl) (by kernel_rfl) (by kernel_rfl) (fun _ _ _ h => h) (Or.inl ⟨by rfl, ?_⟩) ?_
  rotate_left 1
  · (intro w; first | (go_simp; done) | (go_simp; with_reducible rfl))
  refine wpAny_take (i := 2) (v := ?_) rfl (by kernel_rfl) (by kernel_rfl) (by kernel_rfl) (fun _ _ _ h => h) (Or.inl ⟨by rfl, ?_⟩) ?_
  rotate_left 1
  · (intro w; first | (go_simp; done) | (go_simp; with_reducible rfl))
  refine wpAny_take (i := 5) (v := ?_) rfl (by kernel_rfl) (by kernel_rfl) (by kernel_rfl) (fun _ _ _ h => h) (Or.inl ⟨by rfl, ?_⟩) ?_
  rotate_left 1
  · (intro w; first | (go_simp; done) | (go_simp; with_reducible rfl))
  refine wpAny_ready (rs := [3, 6]) (by kernel_rfl) (by simp) ?_
  refine AllReady.cons rfl (fun K hK => ?_) ?_
  · go_simp
    refine hK _ _ ?_
    refine wpAny_ready (rs := [6]) (by kernel_rfl) (by simp) ?_
    refine AllReady.cons rfl (fun K hK => ?_) AllReady.nil
    go_simp
    refine hK _ _ ?_
    refine wpAny_ready (rs := [7]) (by kernel_rfl) (by simp) ?_
    refine AllReady.cons rfl (fun K hK => ?_) AllReady.nil
    refine step_appK (own1) (Kinds.one (Blk.newd _ _ _)) rfl (.tmp 7) (.tmp 10) rfl rfl rfl (n + 1) rfl (by omega) (by simp; omega) ?_; intro A3 c3 w3 own3 ho3 hc3 hd3
    have H3 := H1.grownk own1 (by decide) ho3
    have x3 := H3.cell 0
    have f3 := H3.frozen 0
    simp at x3
    refine hK _ _ ?_
    refine wpAny_ready (rs := [8]) (by kernel_rfl) (by simp) ?_
    refine AllReady.cons rfl (fun K hK => ?_) AllReady.nil
    go_simp
    refine hK _ _ ?_
    refine wpAny_ready (rs := [9]) (by kernel_rfl) (by simp) ?_
    refine AllReady.cons rfl (fun K hK => ?_) AllReady.nil
    go_simp
    refine hK _ _ ?_
    refine wpAny_done (by kernel_rfl) ?_ _
    go_wp2
    go_returns
    refine ⟨_, rfl, ⟨A3, n + 1, c3, Blk.to_ (H3.set_ 0 _) (by simp), own_setk own3 H3 (by decide) 0 _, hc3, hd3⟩, ?_⟩
    exact ((((Below.refl B w).drew).alloc hB _).grown ho3 (by simp; omega) (fun g hg => (own1.lt g hg).1)).setCell (by simpa using hhp) _
  refine AllReady.cons rfl (fun K hK => ?_) AllReady.nil
  go_simp
  refine hK _ _ ?_
  refine wpAny_ready (rs := [3]) (by kernel_rfl) (by simp) ?_
  refine AllReady.cons rfl (fun K hK => ?_) AllReady.nil
  go_simp
  refine hK _ _ ?_
  refine wpAny_ready (rs := [7]) (by kernel_rfl) (by simp) ?_
  refine AllReady.cons rfl (fun K hK => ?_) AllReady.nil
  refine step_appK (own1) (Kinds.one (Blk.newd _ _ _)) rfl (.tmp 7) (.tmp 10) rfl rfl rfl (n + 1) rfl (by omega) (by simp; omega) ?_; intro A3 c3 w3 own3 ho3 hc3 hd3
  have H3 := H1.grownk own1 (by decide) ho3
  have x3 := H3.cell 0
  have f3 := H3.frozen 0
  simp at x3
  refine hK _ _ ?_
  refine wpAny_ready (rs := [8]) (by kernel_rfl) (by simp) ?_
  refine AllReady.cons rfl (fun K hK => ?_) AllReady.nil
  go_simp
  refine hK _ _ ?_
  refine wpAny_ready (rs := [9]) (by kernel_rfl) (by simp) ?_
  refine AllReady.cons rfl (fun K hK => ?_) AllReady.nil
  go_simp
  refine hK _ _ ?_
  refine wpAny_done (by kernel_rfl) ?_ _
  go_wp2
  go_returns
  refine ⟨_, rfl, ⟨A3, n + 1, c3, Blk.to_ (H3.set_ 0 _) (by simp), own_setk own3 H3 (by decide) 0 _, hc3, hd3⟩, ?_⟩
  exact ((((Below.refl B w).drew).alloc hB _).grown ho3 (by simp; omega) (fun g hg => (own1.lt g hg).1)).setCell (by simpa using hhp) _
theorem own_kind {w : World} {B n c : Nat} {A : Option Addr} {ks : List (Int × Int × Int)} (h : w.ownsRow B 76 3 (.slice A n c) n (kindCells ks)) {k : Nat} {a b d : Int} (hk : ks[k]? = some (a, b, d)) :
    ∃ g, A = some ⟨g, 0, none⟩ ∧ k < n ∧ B ≤ g ∧ g < w.heap.size ∧ w.cell? ⟨g, k * 3, none⟩ = some (.int .i64 a) ∧ w.cell? ⟨g, k * 3 + 1, none⟩ = some (.int .i64 b) ∧ w.cell? ⟨g, k * 3 + 2, none⟩ = some (.int .i64 d) := by
  have hl := HeapIs.len h
  have hkn : k < n := by
    rcases Nat.lt_or_ge k ks.length with h1 | h1
    · omega
    · rw [List.getElem?_eq_none h1] at hk; cases hk
  obtain ⟨g, cap, hv, hB, hlt⟩ := h.form (by omega)
  injection hv with hA
  subst hA
  have hc := h.cells (g := g) rfl
  obtain ⟨h1, h2, h3⟩ := kindCells_at hk
  have e1 := hc _ _ h1
  have e2 := hc _ _ h2
  have e3 := hc _ _ h3
  simp only [add_none, Nat.zero_add] at e1 e2 e3
  exact ⟨g, rfl, hkn, hB, hlt, e1, e2, e3⟩
set_option maxHeartbeats 1000000 in
theorem Less_any (B : Nat) (A : Option Addr) (n c : Nat) (ks : List (Int × Int × Int)) (i j : Nat) (a1 b1 d1 a2 b2 d2 : Int) (w : World) (own : w.ownsRow B 76 3 (.slice A n c) n (kindCells ks)) (hi : ks[i]? = some (a1, b1, d1)) (hj : ks[j]? = some (a2, b2, d2)) (hn : n ≤ 100) :
    Calls Try.prog 93 #[.slice A n c, .int .i64 i, .int .i64 j] w fun e w' => e = .returned (.bool (decide (a1 < a2))) ∧ ∃ k, w' = w.drewN k := by
  obtain ⟨g, rfl, hin, hB, hlt, c1, _⟩ := own_kind own hi
  obtain ⟨g', hg, hjn, _, _, c2, _⟩ := own_kind own hj
  injection hg with hg
  injection hg with hg
  subst hg
  have i0 : (0 : Int) ≤ (i : Int) := by omega
  have i1 : (i : Int) < (n : Int) := by omega
  have j0 : (0 : Int) ≤ (j : Int) := by omega
  have j1 : (j : Int) < (n : Int) := by omega
  clear own hi hj
  go_enter Try.func93, Try.ntmps93
  go_wp2_with fail
  go_quiet (fail)
  go_wp2
  go_ret
  exact ⟨rfl, _, rfl⟩
theorem sz_kind : (Try.prog.info? 76).map (·.size) = some 3 := by kernel_rfl
theorem step_storeK {ops : Array Oper} {o : Oper} {a' : Act} {K : Act → World → Prop} {Q : Exit → Act → World → Prop} {E : Prop} {w : World} {B n c g : Nat} {ks : List (Int × Int × Int)}
    (own : w.ownsRow B 76 3 (.slice (some ⟨g, 0, none⟩) n c) n (kindCells ks)) {k : Nat} (hk : k < n) (x y : Operand) (ho : o.op = .store 76 x y) (hgd : o.guard = none)
    (hx : a'.eval x = .pointer (some ⟨g, k * 3, none⟩)) {a b d : Int} (hy : a'.eval y = .agg #[.int .i64 a, .int .i64 b, .int .i64 d])
    (h : ∀ w', w'.ownsRow B 76 3 (.slice (some ⟨g, 0, none⟩) n c) n (kindCells (ks.set k (a, b, d))) → w.grownBy w' (some g) → K (a'.put o.dst undef) w') :
    if Region.wanted o (yielded ops a'.tmps) = true then Oper.wp Try.prog o a' w K Q else E := by
  have hw : Region.wanted o (yielded ops a'.tmps) = true := by simp [Region.wanted, hgd]
  rw [if_pos hw]
  have hl := own.1
  have hln := HeapIs.len own
  have st := ((own.stored (k * 3) (.int .i64 a)).1.stored (k * 3 + 1) (.int .i64 b)).1.stored (k * 3 + 2) (.int .i64 d)
  rw [kindCells_set (by omega)] at st
  refine wp_store_mid 76 x y ho g (k * 3) #[.int .i64 a, .int .i64 b, .int .i64 d] hx hy (fun j hj => ?_) sz_kind (all_oneCell_toArray (fun v hv => by simp at hv; rcases hv with rfl | rfl | rfl <;> rfl)) ?_
  · have hj3 : j < 3 := hj
    refine ⟨?_, own.frozenAt _⟩
    rw [own.cellAt _ (by omega), List.getElem?_eq_getElem (by omega)]
    rfl
  · exact h _ st.1 (only_setCell (only_setCell (only_setCell (only_refl w (some g)) (.inl rfl) _) (.inl rfl) _) (.inl rfl) _)
set_option maxHeartbeats 4000000 in
set_option maxRecDepth 20000 in
theorem Swap_any (B : Nat) (A : Option Addr) (n c : Nat) (ks : List (Int × Int × Int)) (i j : Nat) (a1 b1 d1 a2 b2 d2 : Int) (w : World) (own : w.ownsRow B 76 3 (.slice A n c) n (kindCells ks)) (hi : ks[i]? = some (a1, b1, d1)) (hj : ks[j]? = some (a2, b2, d2)) (hn : n ≤ 100) :
    Calls Try.prog 96 #[.slice A n c, .int .i64 i, .int .i64 j] w fun e w' => ∃ v, e = .returned v ∧ w'.ownsRow B 76 3 (.slice A n c) n (kindCells ((ks.set i (a2, b2, d2)).set j (a1, b1, d1))) ∧ w.grownBy w' (Value.slice A n c).ownBlock := by
  obtain ⟨g, rfl, hin, hB, hlt, c1, c2, c3⟩ := own_kind own hi
  obtain ⟨g', hg, hjn, _, _, e1, e2, e3⟩ := own_kind own hj
  injection hg with hg
  injection hg with hg
  subst hg
  have hl := HeapIs.len own
  have i0 : (0 : Int) ≤ (i : Int) := by omega
  have i1 : (i : Int) < (n : Int) := by omega
  have j0 : (0 : Int) ≤ (j : Int) := by omega
  have j1 : (j : Int) < (n : Int) := by omega
  have f1 := own.frozenAt (i * 3)
  have f2 := own.frozenAt (i * 3 + 1)
  have f3 := own.frozenAt (i * 3 + 2)
  have f4 := own.frozenAt (j * 3)
  have f5 := own.frozenAt (j * 3 + 1)
  have f6 := own.frozenAt (j * 3 + 2)
  clear hi hj
  go_enter Try.func96, Try.ntmps96
  go_wp2
  refine wp_region_any (by kernel_rfl) ?_
  change wpAny _ _ _ _ _ _ _ (World.drew _)
  refine wpAny_take (i := 0) (v := ?_) rfl (by kernel_rfl) (by kernel_rfl) (by kernel_rfl) (fun _ _ _ h => h) (Or.inl ⟨by rfl, ?_⟩) ?_
  rotate_left 1
  · (intro w; first | (go_simp; done) | (go_simp; with_reducible rfl))
  refine wpAny_take (i := 1) (v := ?_) rfl (by kernel_rfl) (by kernel_rfl) (by kernel_rfl) (fun _ _ _ h => h) (Or.inl ⟨by rfl, ?_⟩) ?_
  rotate_left 1
  · (intro w; first | (go_simp; done) | (go_simp; with_reducible rfl))
  refine wpAny_take (i := 2) (v := ?_) rfl (by kernel_rfl) (by kernel_rfl) (by kernel_rfl) (fun _ _ _ h => h) (Or.inl ⟨by rfl, ?_⟩) ?_
  rotate_left 1
  · (intro w; first | (go_simp; done) | (go_simp; with_reducible rfl))
  refine wpAny_take (i := 3) (v := ?_) rfl (by kernel_rfl) (by kernel_rfl) (by kernel_rfl) (fun _ _ _ h => h) (Or.inl ⟨by rfl, ?_⟩) ?_
  rotate_left 1
  · (intro w; first | (go_simp; done) | (go_simp; with_reducible rfl))
  refine wpAny_take (i := 4) (v := ?_) rfl (by kernel_rfl) (by kernel_rfl) (by kernel_rfl) (fun _ _ _ h => h) (Or.inl ⟨by rfl, ?_⟩) ?_
  rotate_left 1
  · (intro w; first | (go_simp; done) | (go_simp; with_reducible rfl))
  refine wpAny_take (i := 5) (v := ?_) rfl (by kernel_rfl) (by kernel_rfl) (by kernel_rfl) (fun _ _ _ h => h) (Or.inl ⟨by rfl, ?_⟩) ?_
  rotate_left 1
  · (intro w; first | (go_simp; done) | (go_simp; with_reducible rfl))
  refine wpAny_take (i := 6) (v := ?_) rfl (by kernel_rfl) (by kernel_rfl) (by kernel_rfl) (fun _ _ _ h => h) (Or.inl ⟨by rfl, ?_⟩) ?_
  rotate_left 1
  · (intro w; first | (go_simp; done) | (go_simp; with_reducible rfl))
  refine wpAny_take (i := 8) (v := ?_) rfl (by kernel_rfl) (by kernel_rfl) (by kernel_rfl) (fun _ _ _ h => h) (Or.inl ⟨by rfl, ?_⟩) ?_
  rotate_left 1
  · (intro w; first | (go_simp; done) | (go_simp; with_reducible rfl))
  refine wpAny_take (i := 9) (v := ?_) rfl (by kernel_rfl) (by kernel_rfl) (by kernel_rfl) (fun _ _ _ h => h) (Or.inl ⟨by rfl, ?_⟩) ?_
  rotate_left 1
  · (intro w; first | (go_simp; done) | (go_simp; with_reducible rfl))
  refine wpAny_take (i := 10) (v := ?_) rfl (by kernel_rfl) (by kernel_rfl) (by kernel_rfl) (fun _ _ _ h => h) (Or.inl ⟨by rfl, ?_⟩) ?_
  rotate_left 1
  · (intro w; first | (go_simp; done) | (go_simp; with_reducible rfl))
  refine wpAny_ready (rs := [7, 11]) (by kernel_rfl) (by simp) ?_
  refine AllReady.cons rfl (fun K hK => ?_) ?_
  · go_simp
    refine hK _ _ ?_
    refine wpAny_ready (rs := [11]) (by kernel_rfl) (by simp) ?_
    refine AllReady.cons rfl (fun K hK => ?_) AllReady.nil
    go_simp
    refine hK _ _ ?_
    refine wpAny_take (i := 12) (v := ?_) rfl (by kernel_rfl) (by kernel_rfl) (by kernel_rfl) (fun _ _ _ h => h) (Or.inl ⟨by rfl, ?_⟩) ?_
    rotate_left 1
    · (intro w; first | (go_simp; done) | (go_simp; with_reducible rfl))
    refine wpAny_ready (rs := [13]) (by kernel_rfl) (by simp) ?_
    refine AllReady.cons rfl (fun K hK => ?_) AllReady.nil
    refine step_storeK (World.ownsRow.drew own) (k := i) (by omega) (.tmp 18) (.tmp 13) rfl rfl rfl (a := a2) (b := b2) (d := d2) rfl ?_; intro w1 own1 ho1
    refine hK _ _ ?_
    refine wpAny_take (i := 14) (v := ?_) rfl (by kernel_rfl) (by kernel_rfl) (by kernel_rfl) (fun _ _ _ h => h) (Or.inl ⟨by rfl, ?_⟩) ?_
    rotate_left 1
    · (intro w; first | (go_simp; done) | (go_simp; with_reducible rfl))
    refine wpAny_ready (rs := [15]) (by kernel_rfl) (by simp) ?_
    refine AllReady.cons rfl (fun K hK => ?_) AllReady.nil
    refine step_storeK (own1) (k := j) (by omega) (.tmp 19) (.tmp 17) rfl rfl rfl (a := a1) (b := b1) (d := d1) rfl ?_; intro w2 own2 ho2
    refine hK _ _ ?_
    refine wpAny_done (by kernel_rfl) ?_ _
    go_wp2
    go_returns
    exact ⟨_, rfl, own2, only_trans (only_trans (only_drew (only_refl w (some g))) ho1) ho2⟩
  refine AllReady.cons rfl (fun K hK => ?_) AllReady.nil
  go_simp
  refine hK _ _ ?_
  refine wpAny_ready (rs := [7]) (by kernel_rfl) (by simp) ?_
  refine AllReady.cons rfl (fun K hK => ?_) AllReady.nil
  go_simp
  refine hK _ _ ?_
  refine wpAny_take (i := 12) (v := ?_) rfl (by kernel_rfl) (by kernel_rfl) (by kernel_rfl) (fun _ _ _ h => h) (Or.inl ⟨by rfl, ?_⟩) ?_
  rotate_left 1
  · (intro w; first | (go_simp; done) | (go_simp; with_reducible rfl))
  refine wpAny_ready (rs := [13]) (by kernel_rfl) (by simp) ?_
  refine AllReady.cons rfl (fun K hK => ?_) AllReady.nil
  refine step_storeK (World.ownsRow.drew own) (k := i) (by omega) (.tmp 18) (.tmp 13) rfl rfl rfl (a := a2) (b := b2) (d := d2) rfl ?_; intro w1 own1 ho1
  refine hK _ _ ?_
  refine wpAny_take (i := 14) (v := ?_) rfl (by kernel_rfl) (by kernel_rfl) (by kernel_rfl) (fun _ _ _ h => h) (Or.inl ⟨by rfl, ?_⟩) ?_
  rotate_left 1
  · (intro w; first | (go_simp; done) | (go_simp; with_reducible rfl))
  refine wpAny_ready (rs := [15]) (by kernel_rfl) (by simp) ?_
  refine AllReady.cons rfl (fun K hK => ?_) AllReady.nil
  refine step_storeK (own1) (k := j) (by omega) (.tmp 19) (.tmp 17) rfl rfl rfl (a := a1) (b := b1) (d := d1) rfl ?_; intro w2 own2 ho2
  refine hK _ _ ?_
  refine wpAny_done (by kernel_rfl) ?_ _
  go_wp2
  go_returns
  exact ⟨_, rfl, own2, only_trans (only_trans (only_drew (only_refl w (some g))) ho1) ho2⟩
end Go.Proofs.Ytflimlalccmdnaa
