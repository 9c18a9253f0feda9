/-
  THE CHECKER OF SHAPES, regions (in their order, and drawn) and code: what it finds holds of every run. Condition: the table is as it must be (CxOk).
-/
import Derived.Test.YtdnjdbafffifeaaTyOp
set_option linter.unusedVariables false
set_option linter.unusedSimpArgs false
namespace Go.Proofs.Ytdnjdbafffifeaa
open Go.ChangeShapes Go.WideShapes Go.ChangeAt Go.RowKit

def lookD (D : List (Nat × TypeId × List Cel)) (r : Nat) : Option (TypeId × List Cel) := (D.find? (fun x => x.1 == r)).map (·.2)
def delD (D : List (Nat × TypeId × List Cel)) (r : Nat) : List (Nat × TypeId × List Cel) := D.filter (fun x => x.1 != r)
def forget (r : Nat) : Ty → Ty
  | .tp r' o => if r' == r then .ta else .tp r' o
  | t => t
def setG (G : List Ty) : Option Tmp → Ty → List Ty
  | some d, τ => G.set d τ
  | none, _ => G
def St.app (st : St) (dst : Option Tmp) (τ : Ty) : Ef → St
  | .en => ⟨setG st.G dst τ, st.D⟩
  | .ew t ks => match dst with
    | some d => ⟨(st.G.map (forget d)).set d τ, (d, t, ks) :: delD st.D d⟩
    | none => st
  | .eu r t ks => ⟨setG st.G dst τ, (r, t, ks) :: delD st.D r⟩
theorem lookD_cons (r : Nat) (q : TypeId × List Cel) (D : List (Nat × TypeId × List Cel)) (x : Nat) : lookD ((r, q) :: delD D r) x = if x = r then some q else lookD D x := by
  unfold lookD delD
  rw [List.find?_cons]
  by_cases h : x = r
  · subst h; simp
  · have h2 : (r == x) = false := by simpa using fun e => h e.symm
    rw [if_neg h]
    simp only [h2]
    congr 1
    induction D with
    | nil => rfl
    | cons y D ih =>
      by_cases hy : (y.1 != r) = true
      · rw [List.filter_cons_of_pos (p := fun (x : Nat × TypeId × List Cel) => x.1 != r) hy, List.find?_cons, List.find?_cons, ih]
      · rw [List.filter_cons_of_neg (p := fun (x : Nat × TypeId × List Cel) => x.1 != r) hy, List.find?_cons, ih]
        have h3 : y.1 = r := by simpa using hy
        have h4 : (y.1 == x) = false := by rw [h3]; exact h2
        simp only [h4]

/-- A state of a run has these shapes. H0, w0: the lists' blocks and the world at the call's begin. -/
structure SOk (H0 : Hp) (w0 : World) (H : Hp) (ρ : Nat → Nat) (st : St) (a : Act) (w : World) : Prop where
  size : a.tmps.size = st.G.length
  defers : a.defers = []
  slots : ∀ i, TOk H ρ (st.G.getD i .ta) (a.tmps.getD i undef)
  box : ∀ r t ks, lookD st.D r = some (t, ks) → Box H w (ρ r) t ks ∧ H (ρ r) = none ∧ w0.heap.size ≤ ρ r
  inj : ∀ r r' x x', lookD st.D r = some x → lookD st.D r' = some x' → r ≠ r' → ρ r ≠ ρ r'
  hw : HW H w
  fr : Fr H0 w0 H w
def S (H0 : Hp) (w0 : World) (st : St) (a : Act) (w : World) : Prop := ∃ H ρ, SOk H0 w0 H ρ st a w

theorem put_size (a : Act) (dst : Option Tmp) (v : Value) : (a.put dst v).tmps.size = a.tmps.size := by
  cases dst with
  | none => rfl
  | some d => simp [Act.put]
theorem put_defers (a : Act) (dst : Option Tmp) (v : Value) : (a.put dst v).defers = a.defers := by
  cases dst <;> rfl
theorem put_get (a : Act) (d : Tmp) (v : Value) (i : Nat) : (a.put (some d) v).tmps.getD i undef = if i = d ∧ d < a.tmps.size then v else a.tmps.getD i undef := by
  simp only [Act.put, Array.getD_eq_getD_getElem?, Array.getElem?_setIfInBounds]
  by_cases h : d = i
  · subst h
    by_cases h2 : d < a.tmps.size
    · simp [h2]
    · simp [h2, Array.getElem?_eq_none (Nat.le_of_not_lt h2)]
  · have h2 : ¬ (i = d ∧ d < a.tmps.size) := fun e => h e.1.symm
    rw [if_neg h, if_neg h2]
theorem set_get (G : List Ty) (d : Nat) (τ : Ty) (i : Nat) : (G.set d τ).getD i .ta = if i = d ∧ d < G.length then τ else G.getD i .ta := by
  simp only [List.getD_eq_getElem?_getD, List.getElem?_set]
  by_cases h : d = i
  · subst h
    by_cases h2 : d < G.length
    · simp [h2]
    · simp [h2, List.getElem?_eq_none (Nat.le_of_not_lt h2)]
  · have h2 : ¬ (i = d ∧ d < G.length) := fun e => h e.1.symm
    rw [if_neg h, if_neg h2]
theorem map_get (G : List Ty) (f : Ty → Ty) (hf : f .ta = .ta) (i : Nat) : (G.map f).getD i .ta = f (G.getD i .ta) := by
  simp only [List.getD_eq_getElem?_getD, List.getElem?_map]
  cases G[i]? with
  | none => simp [hf]
  | some x => rfl
theorem forget_ok {H : Hp} {ρ ρ' : Nat → Nat} {d : Nat} (h : ∀ x, x ≠ d → ρ' x = ρ x) {τ : Ty} {v : Value} (hv : TOk H ρ τ v) : TOk H ρ' (forget d τ) v := by
  cases τ with
  | tp r o =>
    simp only [forget]
    split
    · trivial
    · rename_i hr
      have hr2 : r ≠ d := by simpa using hr
      have hv' : v = .pointer (some ⟨ρ r, o, none⟩) := hv
      show v = .pointer (some ⟨ρ' r, o, none⟩)
      rw [h r hr2]; exact hv'
  | _ => exact hv
section
variable {H0 : Hp} {w0 : World} {H : Hp} {ρ : Nat → Nat} {st : St} {a : Act} {w : World}
theorem SOk.put {dst : Option Tmp} {v : Value} (h : SOk H0 w0 H ρ st a w) : SOk H0 w0 H ρ ⟨setG st.G dst .ta, st.D⟩ (a.put dst v) w := by
  refine ⟨?_, (put_defers _ _ _).trans h.defers, ?_, h.box, h.inj, h.hw, h.fr⟩
  · rw [put_size, h.size]
    cases dst <;> simp [setG]
  · intro i
    cases dst with
    | none => exact h.slots i
    | some d =>
      simp only [setG, set_get, put_get, h.size]
      split
      · trivial
      · exact h.slots i
theorem SOk.app {dst : Option Tmp} {τ : Ty} {ef : Ef} {v : Value} {H' : Hp} {ρ' : Nat → Nat} {w' : World} (h : SOk H0 w0 H ρ st a w) (hp : Post H w ρ dst τ ef v H' ρ' w') (hE : EuOk (lookD st.D) false ef) : SOk H0 w0 H' ρ' (st.app dst τ ef) (a.put dst v) w' := by
  cases ef with
  | en =>
    have hρ : ρ' = ρ := hp.ef
    subst hρ
    refine ⟨?_, (put_defers _ _ _).trans h.defers, ?_, ?_, h.inj, hp.hw, h.fr.transX hp.fr (fun g hg => hg.elim)⟩
    · rw [put_size, h.size]
      cases dst <;> simp [St.app, setG]
    · intro i
      cases dst with
      | none => exact (h.slots i).up hp.fr.le
      | some d =>
        simp only [St.app, setG, set_get, put_get, h.size]
        split
        · exact hp.val
        · exact (h.slots i).up hp.fr.le
    · intro r t ks e
      obtain ⟨h1, h2, h3⟩ := h.box r t ks e
      exact ⟨h1.keep h2 (fun x => x) hp.fr, hp.fr.none_ h2 h1.lt, h3⟩
  | ew t ks =>
    obtain ⟨d, g, rfl, hg, hn, hb, hρ⟩ := hp.ef
    have hsame : ∀ x, x ≠ d → ρ' x = ρ x := fun x hx => by rw [hρ]; exact if_neg hx
    have hnew : ρ' d = g := by rw [hρ]; exact if_pos rfl
    refine ⟨?_, (put_defers _ _ _).trans h.defers, ?_, ?_, ?_, hp.hw, h.fr.transX hp.fr (fun g hg => hg.elim)⟩
    · rw [put_size, h.size]
      simp [St.app]
    · intro i
      simp only [St.app, set_get, put_get, h.size, List.length_map]
      split
      · exact hp.val
      · rw [map_get _ _ rfl]
        exact forget_ok hsame ((h.slots i).up hp.fr.le)
    · intro r t' ks' e
      simp only [St.app, lookD_cons] at e
      split at e
      · rename_i hr
        subst hr
        injection e with e
        injection e with e1 e2
        subst e1; subst e2
        rw [hnew]
        exact ⟨hb, hn, Nat.le_trans h.fr.size hg⟩
      · rename_i hr
        rw [hsame r hr]
        obtain ⟨h1, h2, h3⟩ := h.box r t' ks' e
        exact ⟨h1.keep h2 (fun x => x) hp.fr, hp.fr.none_ h2 h1.lt, h3⟩
    · intro r r' x x' e e' hne
      simp only [St.app, lookD_cons] at e e'
      split at e
      · rename_i hr
        rw [if_neg (fun e2 => hne (hr.trans e2.symm))] at e'
        rw [hr, hnew, hsame r' (fun e2 => hne (hr.trans e2.symm))]
        have := (h.box r' _ _ e').1.lt
        omega
      · rename_i hr
        rw [hsame r hr]
        split at e'
        · rename_i hr'
          rw [hr', hnew]
          have := (h.box r _ _ e).1.lt
          omega
        · rename_i hr'
          rw [hsame r' hr']
          exact h.inj r r' x x' e e' hne
  | eu r0 t ks =>
    obtain ⟨hρ, hb⟩ := hp.ef
    subst hρ
    obtain ⟨q, hq, _⟩ := hE r0 t ks rfl
    obtain ⟨b1, b2, b3⟩ := h.box r0 q.1 q.2 hq
    have hf : ∀ g, touched ρ' (.eu r0 t ks) g → g = ρ' r0 := fun g hg => hg
    refine ⟨?_, (put_defers _ _ _).trans h.defers, ?_, ?_, ?_, hp.hw, h.fr.transX hp.fr (fun g hg => by rw [hf g hg]; exact b3)⟩
    · rw [put_size, h.size]
      cases dst <;> simp [St.app, setG]
    · intro i
      cases dst with
      | none => exact (h.slots i).up hp.fr.le
      | some d =>
        simp only [St.app, setG, set_get, put_get, h.size]
        split
        · exact hp.val
        · exact (h.slots i).up hp.fr.le
    · intro r t' ks' e
      simp only [St.app, lookD_cons] at e
      split at e
      · rename_i hr
        subst hr
        injection e with e
        injection e with e1 e2
        subst e1; subst e2
        exact ⟨hb, hp.fr.none_ b2 b1.lt, b3⟩
      · rename_i hr
        obtain ⟨h1, h2, h3⟩ := h.box r t' ks' e
        exact ⟨h1.keep h2 (fun x => h.inj r r0 _ _ e hq hr (hf _ x)) hp.fr, hp.fr.none_ h2 h1.lt, h3⟩
    · intro r r' x x' e e' hne
      simp only [St.app, lookD_cons] at e e'
      have old : ∀ y z, (if y = r0 then some (t, ks) else lookD st.D y) = some z → ∃ z', lookD st.D y = some z' := by
        intro y z ey
        split at ey
        · rename_i hy; subst hy; exact ⟨q, hq⟩
        · exact ⟨z, ey⟩
      obtain ⟨z, hz⟩ := old r x e
      obtain ⟨z', hz'⟩ := old r' x' e'
      exact h.inj r r' z z' hz hz' hne
/-- One operation. -/
theorem S.op {cx : Cx} (hC : CxOk cx) {o : Oper} {τ : Ty} {ef : Ef} (hT : opT cx false (look st.G) (lookD st.D) o.dst o.op = some (τ, ef)) (h : S H0 w0 st a w) {K : Act → World → Prop} {Q : Exit → Act → World → Prop} (hK : ∀ a' w', S H0 w0 (st.app o.dst τ ef) a' w' → K a' w') :
    Oper.wp Try.prog o a w K Q := by
  obtain ⟨H, ρ, h⟩ := h
  exact op_ok hC hT (look_ok h.slots) (fun r t ks e => ⟨(h.box r t ks e).1, (h.box r t ks e).2.1⟩) h.hw fun v H' ρ' w' hp hE => hK _ _ ⟨H', ρ', h.app hp hE⟩
end
/-! ### Joins -/
def joinG : List Ty → List Ty → List Ty
  | x :: xs, y :: ys => x.join y :: joinG xs ys
  | xs, [] => xs.map fun _ => .ta
  | [], _ => []
def joinD (D D' : List (Nat × TypeId × List Cel)) : List (Nat × TypeId × List Cel) :=
  D.filterMap fun x => match lookD D x.1, lookD D' x.1 with
    | some p, some q => if p.1 == q.1 then (joinsC p.2 q.2).map (fun zs => (x.1, p.1, zs)) else none
    | _, _ => none
def St.join (s s' : St) : Option St := if s.G.length == s'.G.length then some ⟨joinG s.G s'.G, joinD s.D s'.D⟩ else none
theorem joinG_get : ∀ (xs ys : List Ty) (i : Nat), xs.length = ys.length → (joinG xs ys).getD i .ta = (xs.getD i .ta).join (ys.getD i .ta)
  | [], [], i, _ => by simp [joinG, Ty.join]
  | x :: xs, y :: ys, 0, _ => by simp [joinG]
  | x :: xs, y :: ys, i + 1, h => by simpa [joinG] using joinG_get xs ys i (by simpa using h)
theorem joinG_len : ∀ (xs ys : List Ty), xs.length = ys.length → (joinG xs ys).length = xs.length
  | [], [], _ => rfl
  | x :: xs, y :: ys, h => by simpa [joinG] using joinG_len xs ys (by simpa using h)
theorem joinD_get {D D' : List (Nat × TypeId × List Cel)} {r : Nat} {t : TypeId} {zs : List Cel} (h : lookD (joinD D D') r = some (t, zs)) : ∃ ks ks', lookD D r = some (t, ks) ∧ lookD D' r = some (t, ks') ∧ joinsC ks ks' = some zs := by
  unfold lookD at h
  rw [Option.map_eq_some_iff] at h
  obtain ⟨⟨r', t', zs'⟩, h1, h2⟩ := h
  injection h2 with e1 e2
  subst e1; subst e2
  have h3 := List.find?_some h1
  have h4 := List.mem_of_find?_eq_some h1
  simp at h3
  subst h3
  unfold joinD at h4
  rw [List.mem_filterMap] at h4
  obtain ⟨x, h5, h6⟩ := h4
  split at h6
  · rename_i p q hp hq
    split at h6
    · rename_i ht
      rw [Option.map_eq_some_iff] at h6
      obtain ⟨ws, hws, h6⟩ := h6
      injection h6 with e1 e2
      injection e2 with e2 e3
      subst e1; subst e2; subst e3
      have ht' : p.1 = q.1 := by simpa using ht
      exact ⟨p.2, q.2, hp, hq.trans (by rw [ht']), hws⟩
    · cases h6
  · cases h6
theorem S.join {H0 : Hp} {w0 : World} {s s' z : St} {a : Act} {w : World} (hj : s.join s' = some z) : (S H0 w0 s a w → S H0 w0 z a w) ∧ (S H0 w0 s' a w → S H0 w0 z a w) := by
  unfold St.join at hj
  split at hj
  · rename_i hl
    have hl' : s.G.length = s'.G.length := by simpa using hl
    injection hj with hj
    subst hj
    refine ⟨fun ⟨H, ρ, h⟩ => ⟨H, ρ, h.size.trans (joinG_len _ _ hl').symm, h.defers, fun i => ?_, fun r t ks e => ?_, fun r r' x x' e e' hne => ?_, h.hw, h.fr⟩, fun ⟨H, ρ, h⟩ => ⟨H, ρ, (h.size.trans hl'.symm).trans (joinG_len _ _ hl').symm, h.defers, fun i => ?_, fun r t ks e => ?_, fun r r' x x' e e' hne => ?_, h.hw, h.fr⟩⟩
    · rw [joinG_get _ _ _ hl']; exact (TOk.join _ _).1 (h.slots i)
    · obtain ⟨k1, k2, q1, q2, q3⟩ := joinD_get e
      obtain ⟨⟨cs, b1, b2⟩, b3, b4⟩ := h.box r t k1 q1
      exact ⟨⟨cs, b1, (CsOk.join q3).1 b2⟩, b3, b4⟩
    · obtain ⟨k1, k2, q1, q2, q3⟩ := joinD_get (t := x.1) (zs := x.2) e
      obtain ⟨k1', k2', q1', q2', q3'⟩ := joinD_get (t := x'.1) (zs := x'.2) e'
      exact h.inj r r' _ _ q1 q1' hne
    · rw [joinG_get _ _ _ hl']; exact (TOk.join _ _).2 (h.slots i)
    · obtain ⟨k1, k2, q1, q2, q3⟩ := joinD_get e
      obtain ⟨⟨cs, b1, b2⟩, b3, b4⟩ := h.box r t k2 q2
      exact ⟨⟨cs, b1, (CsOk.join q3).2 b2⟩, b3, b4⟩
    · obtain ⟨k1, k2, q1, q2, q3⟩ := joinD_get (t := x.1) (zs := x.2) e
      obtain ⟨k1', k2', q1', q2', q3'⟩ := joinD_get (t := x'.1) (zs := x'.2) e'
      exact h.inj r r' _ _ q2 q2' hne
  · cases hj
/-! ### A region in its order -/
def guards (ops : Array Oper) (i : Nat) : Bool := ops.toList.any fun o => match o.guard with | some (j, _) => j == i | none => false
def bothT (ops : Array Oper) (i : Nat) : Ty → Bool
  | .tv [.cb] false => guards ops i
  | _ => false
def wantS (ops : Array Oper) (st : St) (o : Oper) : Option Bool :=
  match o.guard with
  | none => some true
  | some (j, want) => match (ops[j]?).bind (·.dst) with
    | some d => match st.G.getD d .ta with
      | .tv [.ck x] false => some (x == want)
      | _ => none
    | none => none
def seqS (cx : Cx) (ops : Array Oper) : Nat → List Oper → St → Option St
  | _, [], st => some st
  | i, o :: rest, st => match wantS ops st o with
    | none => none
    | some false => seqS cx ops (i + 1) rest ⟨setG st.G o.dst .ta, st.D⟩
    | some true => match opT cx false (look st.G) (lookD st.D) o.dst o.op with
      | none => none
      | some (τ, ef) =>
        if bothT ops i τ then
          (match seqS cx ops (i + 1) rest (st.app o.dst (.tv [.ck true] false) ef), seqS cx ops (i + 1) rest (st.app o.dst (.tv [.ck false] false) ef) with
          | some x, some y => x.join y
          | _, _ => none)
        else seqS cx ops (i + 1) rest (st.app o.dst τ ef)
section
variable {H0 : Hp} {w0 : World} {st : St} {a : Act} {w : World} {cx : Cx}
theorem want_ok {ops : Array Oper} {o : Oper} {b : Bool} (h : S H0 w0 st a w) (hw : wantS ops st o = some b) : Region.wanted o (yielded ops a.tmps) = b := by
  obtain ⟨H, ρ, h⟩ := h
  unfold wantS at hw
  unfold Region.wanted
  cases hg : o.guard with
  | none => rw [hg] at hw; injection hw
  | some q =>
    obtain ⟨j, want⟩ := q
    rw [hg] at hw
    simp only at hw ⊢
    cases hd : (ops[j]?).bind (·.dst) with
    | none => rw [hd] at hw; cases hw
    | some d =>
      rw [hd] at hw
      simp only at hw
      split at hw
      · rename_i x e
        injection hw with hw
        have hs := h.slots d
        rw [e] at hs
        have hv : a.tmps.getD d undef = .bool x := hs.1
        have hy : yielded ops a.tmps j = some x := by
          unfold yielded
          rw [hd]
          simp only [Option.bind_some]
          rw [Array.getD_eq_getD_getElem?] at hv
          cases hq : a.tmps[d]? with
          | none => rw [hq] at hv; simp [undef] at hv
          | some u => rw [hq] at hv; simp at hv; subst hv; rfl
        rw [hy, ← hw]
        cases x <;> cases want <;> rfl
      · cases hw
theorem bothT_ok {ops : Array Oper} {i : Nat} {τ : Ty} (h : bothT ops i τ = true) : τ = .tv [.cb] false := by
  unfold bothT at h
  split at h
  · rfl
  · cases h
theorem S.op2 (hC : CxOk cx) {o : Oper} {ef : Ef} (hT : opT cx false (look st.G) (lookD st.D) o.dst o.op = some (.tv [.cb] false, ef)) (h : S H0 w0 st a w) {K : Act → World → Prop} {Q : Exit → Act → World → Prop}
    (hK : ∀ a' w' b, S H0 w0 (st.app o.dst (.tv [.ck b] false) ef) a' w' → K a' w') : Oper.wp Try.prog o a w K Q := by
  obtain ⟨H, ρ, h⟩ := h
  refine op_ok hC hT (look_ok h.slots) (fun r t ks e => ⟨(h.box r t ks e).1, (h.box r t ks e).2.1⟩) h.hw fun v H' ρ' w' hp hE => ?_
  obtain ⟨b, hb⟩ : ∃ b, v = .bool b := hp.val.1
  exact hK _ _ b ⟨H', ρ', h.app ⟨⟨hb, trivial⟩, hp.hw, hp.fr, hp.ef⟩ hE⟩
theorem seq_ok (hC : CxOk cx) {ops : Array Oper} {Q : Exit → Act → World → Prop} : ∀ (rest : List Oper) (i : Nat) (st st' : St) (a : Act) (w : World), seqS cx ops i rest st = some st' → S H0 w0 st a w → (∀ a w, S H0 w0 st' a w → Q .normal a w) → wpList Try.prog ops Q rest a w
  | [], i, st, st', a, w, h, hs, hQ => by simp [seqS] at h; subst h; exact hQ a w hs
  | o :: rest, i, st, st', a, w, h, hs, hQ => by
    unfold seqS at h
    unfold wpList
    cases hw : wantS ops st o with
    | none => rw [hw] at h; cases h
    | some b =>
      rw [hw] at h
      rw [want_ok hs hw]
      cases b with
      | false =>
        simp only at h
        rw [if_neg (by decide)]
        obtain ⟨H, ρ, hs⟩ := hs
        exact seq_ok hC rest (i + 1) _ st' _ _ h ⟨H, ρ, hs.put⟩ hQ
      | true =>
        simp only at h
        rw [if_pos rfl]
        refine .inl ?_
        cases hT : opT cx false (look st.G) (lookD st.D) o.dst o.op with
        | none => rw [hT] at h; cases h
        | some q =>
          obtain ⟨τ, ef⟩ := q
          rw [hT] at h
          simp only at h
          split at h
          · rename_i hb
            have hτ := bothT_ok hb
            subst hτ
            cases h1 : seqS cx ops (i + 1) rest (st.app o.dst (.tv [.ck true] false) ef) with
            | none => rw [h1] at h; simp at h
            | some x =>
              cases h2 : seqS cx ops (i + 1) rest (st.app o.dst (.tv [.ck false] false) ef) with
              | none => rw [h1, h2] at h; simp at h
              | some y =>
                rw [h1, h2] at h
                simp only at h
                refine S.op2 hC hT hs fun a' w' b hs' => ?_
                cases b with
                | true => exact seq_ok hC rest (i + 1) _ x a' w' h1 hs' fun a w hz => hQ a w ((S.join h).1 hz)
                | false => exact seq_ok hC rest (i + 1) _ y a' w' h2 hs' fun a w hz => hQ a w ((S.join h).2 hz)
          · exact S.op hC hT hs fun a' w' hs' => seq_ok hC rest (i + 1) _ st' a' w' h hs' hQ
end
/-! ### A region that draws its order -/
def wrt (ops : List Oper) (t : Tmp) : Option Nat := ops.findIdx? fun o => match o.dst with | some d => d == t | none => false
def aft (o : Oper) (j : Nat) : Bool := o.after.toList.any fun e => Region.binds .any e && e.on == j
def clearG (ops : List Oper) : Ty → Ty
  | .tp r o => if (wrt ops r).isSome then .ta else .tp r o
  | t => t
def lkD (ops : List Oper) (G : List Ty) (ts : List (Ty × Ef)) (o : Oper) : Operand → Ty
  | .tmp t => match wrt ops t with
    | none => clearG ops (G.getD t .ta)
    | some j => if aft o j then (match ts[j]? with | some q => q.1 | none => .ta) else .ta
  | x => look [] x
def newQ : Option (Ty × Ef) → Option (TypeId × List Cel)
  | some (_, .ew t ks) => some (t, ks)
  | _ => none
def bxD (ops : List Oper) (D : List (Nat × TypeId × List Cel)) (ts : List (Ty × Ef)) (o : Oper) (r : Nat) : Option (TypeId × List Cel) :=
  match wrt ops r with
  | none => lookD D r
  | some j => if aft o j then newQ ts[j]? else none
/-- What else must hold of operation number i. -/
def sideD (ops : List Oper) (n i : Nat) (o : Oper) (τ : Ty) (ef : Ef) : Bool :=
  o.guard.isNone && (o.after.toList.all fun e => !Region.binds .any e || decide (e.on < i)) &&
  (match o.dst with | some d => wrt ops d == some i && decide (d < n) | none => true) &&
  (match τ with
   | .tp r _ => (wrt ops r).isNone || (match o.dst with | some d => d == r | none => false)
   | _ => true)
def drawT (cx : Cx) (ops : List Oper) (st : St) : Nat → List Oper → List (Ty × Ef) → Option (List (Ty × Ef))
  | _, [], acc => some acc
  | i, o :: rest, acc => match opT cx true (lkD ops st.G acc o) (bxD ops st.D acc o) o.dst o.op with
    | some (τ, ef) => if sideD ops st.G.length i o τ ef then drawT cx ops st (i + 1) rest (acc ++ [(τ, ef)]) else none
    | none => none
def newsD : List Oper → List (Ty × Ef) → List (Nat × TypeId × List Cel)
  | o :: ops, (_, .ew t ks) :: ts => match o.dst with
    | some d => (d, t, ks) :: newsD ops ts
    | none => newsD ops ts
  | _ :: ops, _ :: ts => newsD ops ts
  | _, _ => []
def drawS (cx : Cx) (ops : List Oper) (st : St) : Option St :=
  (drawT cx ops st 0 ops []).map fun ts =>
    ⟨(List.range st.G.length).map fun t => (match wrt ops t with
      | none => clearG ops (st.G.getD t .ta)
      | some j => match ts[j]? with | some q => q.1 | none => .ta), newsD ops ts ++ st.D.filter fun x => (wrt ops x.1).isNone⟩

theorem wrt_lt {ops : List Oper} {t j : Nat} (h : wrt ops t = some j) : ∃ o, ops[j]? = some o ∧ o.dst = some t := by
  unfold wrt at h
  rw [List.findIdx?_eq_some_iff_getElem] at h
  obtain ⟨hj, h1, _⟩ := h
  refine ⟨_, List.getElem?_eq_getElem hj, ?_⟩
  split at h1
  · rename_i d e
    rw [e]
    have : d = t := by simpa using h1
    rw [this]
  · cases h1
theorem wrt_none {ops : List Oper} {t i : Nat} {o : Oper} (h : wrt ops t = none) (ho : ops[i]? = some o) : o.dst ≠ some t := by
  unfold wrt at h
  rw [List.findIdx?_eq_none_iff] at h
  intro e
  have := h o (List.mem_of_getElem? ho)
  rw [e] at this
  simp at this
theorem aft_ok {o : Oper} {j i : Nat} (ha : aft o j = true) (hs : (o.after.toList.all fun e => !Region.binds .any e || decide (e.on < i)) = true) : j < i := by
  unfold aft at ha
  rw [List.any_eq_true] at ha
  obtain ⟨e, he, h1⟩ := ha
  have h2 := List.all_eq_true.1 hs e he
  simp only [Bool.and_eq_true, beq_iff_eq] at h1
  rw [h1.1] at h2
  have h3 : e.on < i := by simpa using h2
  rw [← h1.2]; exact h3
/-- The shapes found do not hang on what comes later. -/
theorem lkD_more {ops : List Oper} {G : List Ty} {acc more : List (Ty × Ef)} {o : Oper} (hs : (o.after.toList.all fun e => !Region.binds .any e || decide (e.on < acc.length)) = true) : lkD ops G (acc ++ more) o = lkD ops G acc o := by
  funext x
  cases x with
  | tmp t =>
    simp only [lkD]
    cases wrt ops t with
    | none => rfl
    | some j =>
      simp only
      by_cases ha : aft o j = true
      · rw [if_pos ha, if_pos ha, List.getElem?_append_left (aft_ok ha hs)]
      · rw [if_neg ha, if_neg ha]
  | _ => rfl
theorem bxD_more {ops : List Oper} {D : List (Nat × TypeId × List Cel)} {acc more : List (Ty × Ef)} {o : Oper} (hs : (o.after.toList.all fun e => !Region.binds .any e || decide (e.on < acc.length)) = true) : bxD ops D (acc ++ more) o = bxD ops D acc o := by
  funext r
  simp only [bxD]
  cases wrt ops r with
  | none => rfl
  | some j =>
    simp only
    by_cases ha : aft o j = true
    · rw [if_pos ha, if_pos ha, List.getElem?_append_left (aft_ok ha hs)]
    · rw [if_neg ha, if_neg ha]
theorem drawT_ok {cx : Cx} {ops : List Oper} {st : St} : ∀ (rest : List Oper) (acc ts : List (Ty × Ef)), drawT cx ops st acc.length rest acc = some ts →
    (∃ more, ts = acc ++ more) ∧ ts.length = acc.length + rest.length ∧ ∀ (i : Nat) (o : Oper), rest[i]? = some o → ∃ τ ef, ts[acc.length + i]? = some (τ, ef) ∧ opT cx true (lkD ops st.G ts o) (bxD ops st.D ts o) o.dst o.op = some (τ, ef) ∧ sideD ops st.G.length (acc.length + i) o τ ef = true
  | [], acc, ts, h => by simp [drawT] at h; subst h; exact ⟨⟨[], by simp⟩, by simp, fun i o e => by simp at e⟩
  | o :: rest, acc, ts, h => by
    unfold drawT at h
    cases hT : opT cx true (lkD ops st.G acc o) (bxD ops st.D acc o) o.dst o.op with
    | none => rw [hT] at h; cases h
    | some q =>
      obtain ⟨τ, ef⟩ := q
      rw [hT] at h
      simp only at h
      split at h
      · rename_i hs
        have hl : (acc ++ [(τ, ef)]).length = acc.length + 1 := by simp
        rw [← hl] at h
        obtain ⟨⟨more, hm⟩, h2, h3⟩ := drawT_ok rest (acc ++ [(τ, ef)]) ts h
        have hs' := hs
        unfold sideD at hs'
        simp only [Bool.and_eq_true] at hs'
        have ha := hs'.1.1.2
        refine ⟨⟨[(τ, ef)] ++ more, by rw [hm]; simp⟩, by rw [h2, hl]; simp; omega, fun i o' e => ?_⟩
        cases i with
        | zero =>
          simp at e
          subst e
          have e2 : ts = acc ++ ([(τ, ef)] ++ more) := by rw [hm]; simp
          refine ⟨τ, ef, by rw [e2]; simp, ?_, hs⟩
          rw [e2, lkD_more ha, bxD_more ha]
          exact hT
        | succ i =>
          obtain ⟨τ', ef', k1, k2, k3⟩ := h3 i o' (by simpa using e)
          rw [hl] at k1 k3
          exact ⟨τ', ef', by rw [← k1]; congr 1; omega, k2, by rw [← k3]; congr 1; omega⟩
      · cases h
/-! The states on the way -/
def tyL (ops : List Oper) (G : List Ty) (ts : List (Ty × Ef)) (L : Array Bool) (t : Nat) : Ty :=
  match wrt ops t with
  | none => clearG ops (G.getD t .ta)
  | some j => if L.getD j false then (match ts[j]? with | some q => q.1 | none => .ta) else .ta
def bxL (ops : List Oper) (D : List (Nat × TypeId × List Cel)) (ts : List (Ty × Ef)) (L : Array Bool) (r : Nat) : Option (TypeId × List Cel) :=
  match wrt ops r with
  | none => lookD D r
  | some j => if L.getD j false then newQ ts[j]? else none
structure DOk (H0 : Hp) (w0 : World) (ops : List Oper) (st : St) (ts : List (Ty × Ef)) (L : Array Bool) (H : Hp) (ρ : Nat → Nat) (a : Act) (w : World) : Prop where
  size : a.tmps.size = st.G.length
  defers : a.defers = []
  slots : ∀ i, TOk H ρ (tyL ops st.G ts L i) (a.tmps.getD i undef)
  box : ∀ r t ks, bxL ops st.D ts L r = some (t, ks) → Box H w (ρ r) t ks ∧ H (ρ r) = none ∧ w0.heap.size ≤ ρ r
  inj : ∀ r r' x x', bxL ops st.D ts L r = some x → bxL ops st.D ts L r' = some x' → r ≠ r' → ρ r ≠ ρ r'
  hw : HW H w
  fr : Fr H0 w0 H w
theorem getD_set_self {L : Array Bool} {i : Nat} (h : L.getD i true = false) : (L.setIfInBounds i true).getD i false = true := by
  have hi : i < L.size := by
    rcases Nat.lt_or_ge i L.size with h' | h'
    · exact h'
    · simp [Array.getD_eq_getD_getElem?, Array.getElem?_eq_none h'] at h
  simp [Array.getD_eq_getD_getElem?, Array.getElem?_setIfInBounds, hi]
theorem getD_set_other {L : Array Bool} {i j : Nat} (h : i ≠ j) (b : Bool) : (L.setIfInBounds i true).getD j b = L.getD j b := by
  simp [Array.getD_eq_getD_getElem?, Array.getElem?_setIfInBounds, h]
/-- What is known of the shapes found. -/
def Found (cx : Cx) (ops : List Oper) (st : St) (ts : List (Ty × Ef)) : Prop :=
  ∀ (i : Nat) (o : Oper), ops[i]? = some o → ∃ τ ef, ts[i]? = some (τ, ef) ∧ opT cx true (lkD ops st.G ts o) (bxD ops st.D ts o) o.dst o.op = some (τ, ef) ∧ sideD ops st.G.length i o τ ef = true
structure Side (ops : List Oper) (n i : Nat) (o : Oper) (τ : Ty) : Prop where
  guard : o.guard = none
  after : (o.after.toList.all fun e => !Region.binds .any e || decide (e.on < i)) = true
  dst : ∀ d, o.dst = some d → wrt ops d = some i ∧ d < n
  tp : ∀ r p, τ = .tp r p → wrt ops r = none ∨ o.dst = some r
theorem side_ok {ops : List Oper} {n i : Nat} {o : Oper} {τ : Ty} {ef : Ef} (h : sideD ops n i o τ ef = true) : Side ops n i o τ := by
  unfold sideD at h
  simp only [Bool.and_eq_true] at h
  obtain ⟨⟨⟨h1, h2⟩, h3⟩, h4⟩ := h
  refine ⟨by simpa using h1, h2, fun d e => ?_, fun r p e => ?_⟩
  · rw [e] at h3
    simp only [Bool.and_eq_true, beq_iff_eq, decide_eq_true_eq] at h3
    exact h3
  · subst e
    simp only [Bool.or_eq_true, Option.isNone_iff_eq_none] at h4
    rcases h4 with h4 | h4
    · exact .inl h4
    · split at h4
      · rename_i d e
        have : d = r := by simpa using h4
        exact .inr (by rw [e, this])
      · cases h4
section
variable {cx : Cx} {ops : List Oper} {st : St} {ts : List (Ty × Ef)} {L : Array Bool} {H0 H : Hp} {w0 w : World} {ρ : Nat → Nat} {a : Act}
theorem clearG_tp {t : Ty} {r p : Nat} (h : clearG ops t = .tp r p) : wrt ops r = none := by
  unfold clearG at h
  split at h
  · split at h
    · cases h
    · rename_i hn
      injection h with h1 h2
      subst h1
      simpa using hn
  · rename_i hn; exact absurd h (hn r p)
theorem tyL_tp (hF : Found cx ops st ts) {t r p : Nat} (h : tyL ops st.G ts L t = .tp r p) : wrt ops r = none ∨ r = t := by
  unfold tyL at h
  split at h
  · exact .inl (clearG_tp h)
  · rename_i j hj
    split at h
    · obtain ⟨o, ho, hd⟩ := wrt_lt hj
      obtain ⟨τ, ef, h1, h2, h3⟩ := hF j o ho
      rw [h1] at h
      simp only at h
      rcases (side_ok h3).tp r p h with h4 | h4
      · exact .inl h4
      · rw [hd] at h4
        injection h4 with h4
        exact .inr h4.symm
    · cases h
theorem aft_listed {o : Oper} {j : Nat} (hr : ∀ e ∈ o.after, Region.binds .any e = true → L.getD e.on false = true) (h : aft o j = true) : L.getD j false = true := by
  unfold aft at h
  rw [List.any_eq_true] at h
  obtain ⟨e, he, h1⟩ := h
  simp only [Bool.and_eq_true, beq_iff_eq] at h1
  have := hr e (by simpa using he) h1.1
  rwa [h1.2] at this
theorem lkD_ok (h : DOk H0 w0 ops st ts L H ρ a w) {o : Oper} (hr : ∀ e ∈ o.after, Region.binds .any e = true → L.getD e.on false = true) (x : Operand) : TOk H ρ (lkD ops st.G ts o x) (a.eval x) := by
  cases x with
  | tmp t =>
    have hs := h.slots t
    unfold tyL at hs
    simp only [lkD]
    cases hw : wrt ops t with
    | none => rw [hw] at hs; exact hs
    | some j =>
      rw [hw] at hs
      simp only at hs ⊢
      by_cases ha : aft o j = true
      · rw [if_pos ha]
        rw [if_pos (aft_listed hr ha)] at hs
        exact hs
      · rw [if_neg ha]; trivial
  | const v => exact look_ok (G := []) (a := a) (fun i => by simp; trivial) (.const v)
  | global g => trivial
  | func f => trivial
theorem bxD_bxL {o : Oper} (hr : ∀ e ∈ o.after, Region.binds .any e = true → L.getD e.on false = true) {r : Nat} {x : TypeId × List Cel} (h : bxD ops st.D ts o r = some x) : bxL ops st.D ts L r = some x := by
  unfold bxD at h
  unfold bxL
  cases hw : wrt ops r with
  | none => rw [hw] at h; exact h
  | some j =>
    rw [hw] at h
    simp only at h ⊢
    by_cases ha : aft o j = true
    · rw [if_pos ha] at h
      rw [if_pos (aft_listed hr ha)]
      exact h
    · rw [if_neg ha] at h; cases h
theorem DOk.step (hC : CxOk cx) (hF : Found cx ops st ts) {i : Nat} {o : Oper} (ho : ops[i]? = some o) (hn : L.getD i true = false) (hr : ∀ e ∈ o.after, Region.binds .any e = true → L.getD e.on false = true)
    (h : DOk H0 w0 ops st ts L H ρ a w) {K : Act → World → Prop} {Q : Exit → Act → World → Prop} (hK : ∀ H' ρ' a' w', DOk H0 w0 ops st ts (L.setIfInBounds i true) H' ρ' a' w' → K a' w') : Oper.wp Try.prog o a w K Q := by
  obtain ⟨τ, ef, e1, hT, hS⟩ := hF i o ho
  have hS := side_ok hS
  refine op_ok hC hT (lkD_ok h hr) (fun r t ks e => ⟨(h.box r t ks (bxD_bxL hr e)).1, (h.box r t ks (bxD_bxL hr e)).2.1⟩) h.hw fun v H' ρ' w' hp hE => hK H' ρ' _ _ ?_
  have hold : ∀ r x, bxL ops st.D ts (L.setIfInBounds i true) r = some x → (∃ t ks, ef = .ew t ks ∧ o.dst = some r ∧ x = (t, ks)) ∨ (bxL ops st.D ts L r = some x ∧ o.dst ≠ some r) := by
    intro r x e
    unfold bxL at e ⊢
    cases hw : wrt ops r with
    | none =>
      rw [hw] at e
      exact .inr ⟨e, wrt_none hw ho⟩
    | some j =>
      rw [hw] at e
      simp only at e ⊢
      by_cases hj : i = j
      · subst hj
        rw [getD_set_self hn, if_pos rfl, e1] at e
        obtain ⟨o', ho', hd'⟩ := wrt_lt hw
        rw [ho] at ho'
        injection ho' with ho'
        subst ho'
        left
        cases ef with
        | ew t ks => simp [newQ] at e; exact ⟨t, ks, rfl, hd', e.symm⟩
        | en => simp [newQ] at e
        | eu _ _ _ => simp [newQ] at e
      · rw [getD_set_other hj] at e
        refine .inr ⟨e, fun hd => ?_⟩
        have := (hS.dst r hd).1
        rw [hw] at this
        injection this with this
        exact hj this.symm
  have hsame : ∀ r, o.dst ≠ some r → ρ' r = ρ r := by
    intro r hr
    cases ef with
    | en => rw [hp.ef]
    | eu _ _ _ => rw [hp.ef.1]
    | ew t ks =>
      obtain ⟨d, g, hd, _, _, _, hρ⟩ := hp.ef
      rw [hρ]
      exact if_neg (fun e => hr (by rw [e]; exact hd))
  have hkeep : ∀ r t ks, bxL ops st.D ts L r = some (t, ks) → o.dst ≠ some r → Box H' w' (ρ' r) t ks ∧ H' (ρ' r) = none ∧ w0.heap.size ≤ ρ' r := by
    intro r t ks e hd
    rw [hsame r hd]
    obtain ⟨b1, b2, b3⟩ := h.box r t ks e
    refine ⟨?_, hp.fr.none_ b2 b1.lt, b3⟩
    cases ef with
    | en => exact b1.keep b2 (fun x => x) hp.fr
    | ew _ _ => exact b1.keep b2 (fun x => x) hp.fr
    | eu r0 t0 ks0 =>
      obtain ⟨q, hq, hq2⟩ := hE r0 t0 ks0 rfl
      have hq3 := bxD_bxL hr hq
      by_cases hrr : r = r0
      · subst hrr
        rw [e] at hq3
        injection hq3 with hq3
        have := hq2 rfl
        rw [← hq3] at this
        injection this with k1 k2
        subst k1; subst k2
        have hb := hp.ef.2
        rw [← hsame r hd]
        rw [hp.ef.1]
        exact hb
      · exact b1.keep b2 (fun x => h.inj r r0 _ _ e hq3 hrr x) hp.fr
  refine ⟨by rw [put_size]; exact h.size, (put_defers _ _ _).trans h.defers, ?_, ?_, ?_, hp.hw, ?_⟩
  · intro t
    have hs := h.slots t
    by_cases hd : o.dst = some t
    · obtain ⟨k1, k2⟩ := hS.dst t hd
      have hty : tyL ops st.G ts (L.setIfInBounds i true) t = τ := by
        unfold tyL
        rw [k1]
        simp only
        rw [getD_set_self hn, if_pos rfl, e1]
      rw [hty, hd, put_get, h.size, if_pos ⟨rfl, k2⟩]
      exact hp.val
    · have hval : (a.put o.dst v).tmps.getD t undef = a.tmps.getD t undef := by
        cases hod : o.dst with
        | none => rfl
        | some d =>
          rw [put_get]
          exact if_neg (fun e => hd (by rw [hod, e.1]))
      have hty : tyL ops st.G ts (L.setIfInBounds i true) t = tyL ops st.G ts L t := by
        unfold tyL
        cases hw : wrt ops t with
        | none => rfl
        | some j =>
          simp only
          have hj : i ≠ j := by
            rintro rfl
            obtain ⟨o', ho', hd'⟩ := wrt_lt hw
            rw [ho] at ho'
            injection ho' with ho'
            subst ho'
            exact hd hd'
          rw [getD_set_other hj]
      rw [hval, hty]
      have hs2 := hs.up hp.fr.le
      cases hq : tyL ops st.G ts L t with
      | tp r p =>
        rw [hq] at hs2
        have hv : a.tmps.getD t undef = .pointer (some ⟨ρ r, p, none⟩) := hs2
        show a.tmps.getD t undef = .pointer (some ⟨ρ' r, p, none⟩)
        rw [hsame r ?_]
        · exact hv
        · rcases tyL_tp hF hq with h1 | h1
          · exact wrt_none h1 ho
          · rw [h1]; exact hd
      | _ => rw [hq] at hs2; exact hs2
  · intro r t ks e
    rcases hold r _ e with ⟨t', ks', h1, h2, h3⟩ | ⟨h1, h2⟩
    · injection h3 with k1 k2
      subst k1; subst k2; subst h1
      obtain ⟨d, g, hd, hg, hng, hb, hρ⟩ := hp.ef
      rw [h2] at hd
      injection hd with hd
      subst hd
      have : ρ' r = g := by rw [hρ]; exact if_pos rfl
      rw [this]
      exact ⟨hb, hng, Nat.le_trans h.fr.size hg⟩
    · exact hkeep r t ks h1 h2
  · intro r r' x x' e e' hne
    rcases hold r _ e with ⟨t', ks', h1, h2, h3⟩ | ⟨h1, h2⟩
    · rcases hold r' _ e' with ⟨t2, ks2, k1, k2, k3⟩ | ⟨k1, k2⟩
      · rw [h2] at k2; injection k2 with k2; exact absurd k2 hne
      · subst h1
        obtain ⟨d, g, hd, hg, hng, hb, hρ⟩ := hp.ef
        rw [h2] at hd
        injection hd with hd
        subst hd
        have : ρ' r = g := by rw [hρ]; exact if_pos rfl
        rw [this, hsame r' k2]
        have := (h.box r' _ _ k1).1.lt
        omega
    · rcases hold r' _ e' with ⟨t2, ks2, k1, k2, k3⟩ | ⟨k1, k2⟩
      · subst k1
        obtain ⟨d, g, hd, hg, hng, hb, hρ⟩ := hp.ef
        rw [k2] at hd
        injection hd with hd
        subst hd
        have : ρ' r' = g := by rw [hρ]; exact if_pos rfl
        rw [this, hsame r h2]
        have := (h.box r _ _ h1).1.lt
        omega
      · rw [hsame r h2, hsame r' k2]
        exact h.inj r r' _ _ h1 k1 hne
  · refine h.fr.transX hp.fr (fun g hg => ?_)
    cases ef with
    | en => exact hg.elim
    | ew _ _ => exact hg.elim
    | eu r0 t0 ks0 =>
      obtain ⟨q, hq, _⟩ := hE r0 t0 ks0 rfl
      have hg' : g = ρ r0 := hg
      rw [hg']
      exact (h.box r0 q.1 q.2 (bxD_bxL hr hq)).2.2
end
theorem count_set_ : ∀ (l : List Bool) (i : Nat), l[i]? = some false → (l.set i true).count false + 1 = l.count false
  | [], i, h => by simp at h
  | b :: l, 0, h => by simp at h; subst h; simp
  | b :: l, i + 1, h => by
    have := count_set_ l i (by simpa using h)
    simp only [List.set_cons_succ, List.count_cons]
    omega
theorem all_listed {L : Array Bool} (h : L.toList.count false = 0) (i : Nat) : L.getD i true = true := by
  rw [List.count_eq_zero] at h
  rw [Array.getD_eq_getD_getElem?]
  cases e : L[i]? with
  | none => rfl
  | some b =>
    cases b with
    | true => rfl
    | false => exact absurd (List.mem_of_getElem? (by simpa using e)) h
section
variable {cx : Cx} {ops : List Oper} {st : St} {ts : List (Ty × Ef)} {L : Array Bool} {H0 H : Hp} {w0 w : World} {ρ : Nat → Nat} {a : Act}
/-- Where nothing can come up all has come up. -/
theorem ready_nil (hF : Found cx ops st ts) (hL : L.size = ops.length) (h : Region.ready .any ops.toArray L = []) : ∀ i, L.getD i true = true := by
  intro i
  induction i using Nat.strongRecOn with
  | _ i ih =>
    cases hb : L.getD i true with
    | true => rfl
    | false =>
      exfalso
      have hi : i < L.size := by
        rcases Nat.lt_or_ge i L.size with h' | h'
        · exact h'
        · simp [Array.getD_eq_getD_getElem?, Array.getElem?_eq_none h'] at hb
      rw [hL] at hi
      obtain ⟨τ, ef, _, _, hS⟩ := hF i _ (List.getElem?_eq_getElem hi)
      have hmem : i ∈ Region.ready .any ops.toArray L := by
        rw [mem_ready]
        refine ⟨hb, ops[i], by simp [hi], fun e he hbe => ?_⟩
        have h2 := List.all_eq_true.1 (side_ok hS).after e (by simpa using he)
        rw [hbe] at h2
        have h3 : e.on < i := by simpa using h2
        have h4 := ih e.on h3
        have h5 : e.on < L.size := by omega
        rw [Array.getD_eq_getD_getElem?, Array.getElem?_eq_getElem h5] at h4 ⊢
        exact h4
      rw [h] at hmem
      cases hmem
theorem newsD_mem : ∀ (l : List Oper) (ts : List (Ty × Ef)) (r : Nat) (t : TypeId) (ks : List Cel), (r, t, ks) ∈ newsD l ts → ∃ (i : Nat) (o : Oper) (τ : Ty), l[i]? = some o ∧ ts[i]? = some (τ, .ew t ks) ∧ o.dst = some r
  | [], _, _, _, _, h => by simp [newsD] at h
  | _ :: _, [], _, _, _, h => by simp [newsD] at h
  | o :: l, (τ, ef) :: ts, r, t, ks, h => by
    have rest : (r, t, ks) ∈ newsD l ts → ∃ (i : Nat) (o' : Oper) (τ' : Ty), (o :: l)[i]? = some o' ∧ ((τ, ef) :: ts)[i]? = some (τ', .ew t ks) ∧ o'.dst = some r := fun h => by
      obtain ⟨i, o', τ', h1, h2, h3⟩ := newsD_mem l ts r t ks h
      exact ⟨i + 1, o', τ', by simpa using h1, by simpa using h2, h3⟩
    cases ef with
    | ew t' ks' =>
      simp only [newsD] at h
      cases hd : o.dst with
      | none => rw [hd] at h; exact rest h
      | some d =>
        rw [hd] at h
        rcases List.mem_cons.1 h with h1 | h1
        · injection h1 with e1 e2
          injection e2 with e2 e3
          subst e1; subst e2; subst e3
          exact ⟨0, o, τ, rfl, rfl, hd⟩
        · exact rest h1
    | en => exact rest h
    | eu _ _ _ => exact rest h
/-- The end of a drawn region. -/
theorem DOk.fin (hF : Found cx ops st ts) (hall : ∀ i, L.getD i true = true) (hL : L.size = ops.length) (h : DOk H0 w0 ops st ts L H ρ a w) :
    SOk H0 w0 H ρ ⟨(List.range st.G.length).map fun t => (match wrt ops t with
      | none => clearG ops (st.G.getD t .ta)
      | some j => match ts[j]? with | some q => q.1 | none => .ta), newsD ops ts ++ st.D.filter fun x => (wrt ops x.1).isNone⟩ a w := by
  have hal : ∀ i, i < ops.length → L.getD i false = true := fun i hi => by
    have := hall i
    rw [Array.getD_eq_getD_getElem?, Array.getElem?_eq_getElem (by omega)] at this ⊢
    exact this
  have hget : ∀ r x, lookD (newsD ops ts ++ st.D.filter fun x => (wrt ops x.1).isNone) r = some x → bxL ops st.D ts L r = some x := by
    intro r x e
    unfold lookD at e
    rw [Option.map_eq_some_iff] at e
    obtain ⟨⟨r', t, ks⟩, e1, e2⟩ := e
    simp only at e2
    subst e2
    have h3 := List.find?_some e1
    simp at h3
    subst h3
    rw [List.find?_append, Option.or_eq_some_iff] at e1
    unfold bxL
    rcases e1 with e1 | ⟨_, e1⟩
    · obtain ⟨i, o, τ, h4, h5, h6⟩ := newsD_mem ops ts _ _ _ (List.mem_of_find?_eq_some e1)
      obtain ⟨τ', ef', h7, _, hS⟩ := hF i o h4
      rw [((side_ok hS).dst _ h6).1]
      simp only
      rw [if_pos (hal i (by
        rcases Nat.lt_or_ge i ops.length with h' | h'
        · exact h'
        · rw [List.getElem?_eq_none h'] at h4; cases h4)), h5]
      rfl
    · have hm := List.mem_of_find?_eq_some e1
      rw [List.mem_filter] at hm
      have hn : wrt ops r' = none := by simpa using hm.2
      rw [hn]
      simp only
      unfold lookD
      rw [List.find?_filter] at e1
      have e3 : st.D.find? (fun x => x.1 == r') = some (r', t, ks) := by
        rw [← e1]
        congr 1
        funext x
        by_cases hx : x.1 = r'
        · simp [hx, hn]
        · simp [hx]
      rw [e3]
      rfl
  refine ⟨h.size.trans (by simp), h.defers, fun t => ?_, fun r t ks e => h.box r t ks (hget r _ e), fun r r' x x' e e' hne => h.inj r r' x x' (hget r _ e) (hget r' _ e') hne, h.hw, h.fr⟩
  have hs := h.slots t
  by_cases ht : t < st.G.length
  · have hg : ((List.range st.G.length).map fun t => (match wrt ops t with
      | none => clearG ops (st.G.getD t .ta)
      | some j => match ts[j]? with | some q => q.1 | none => .ta)).getD t .ta = tyL ops st.G ts L t := by
      rw [List.getD_eq_getElem?_getD, List.getElem?_map, List.getElem?_range ht]
      simp only [Option.map_some, Option.getD_some]
      unfold tyL
      cases hw : wrt ops t with
      | none => rfl
      | some j =>
        obtain ⟨o, ho, _⟩ := wrt_lt hw
        simp only
        rw [if_pos (hal j (by
          rcases Nat.lt_or_ge j ops.length with h' | h'
          · exact h'
          · rw [List.getElem?_eq_none h'] at ho; cases ho))]
    simp only
    rw [hg]
    exact hs
  · simp only
    rw [List.getD_eq_getElem?_getD, List.getElem?_eq_none (by simp; omega)]
    trivial
theorem DOk.begin {L : Array Bool} (hL : ∀ i, L.getD i false = false) (h : SOk H0 w0 H ρ st a w) : DOk H0 w0 ops st ts L H ρ a w := by
  have hb : ∀ r x, bxL ops st.D ts L r = some x → lookD st.D r = some x := by
    intro r x e
    unfold bxL at e
    split at e
    · exact e
    · rw [hL] at e; cases e
  refine ⟨h.size, h.defers, fun t => ?_, fun r t ks e => h.box r t ks (hb r _ e), fun r r' x x' e e' hne => h.inj r r' x x' (hb r _ e) (hb r' _ e') hne, h.hw, h.fr⟩
  unfold tyL
  split
  · have hs := h.slots t
    unfold clearG
    split
    · rename_i r o e
      split
      · trivial
      · rw [e] at hs; exact hs
    · exact hs
  · rw [hL]; trivial
theorem any_ok (hC : CxOk cx) (hF : Found cx ops st ts) {st' : St} (hst : st' = ⟨(List.range st.G.length).map fun t => (match wrt ops t with
      | none => clearG ops (st.G.getD t .ta)
      | some j => match ts[j]? with | some q => q.1 | none => .ta), newsD ops ts ++ st.D.filter fun x => (wrt ops x.1).isNone⟩) {Q : Exit → Act → World → Prop} (hQ : ∀ a w, S H0 w0 st' a w → Q .normal a w) :
    ∀ (fuel : Nat) (L : Array Bool) (H : Hp) (ρ : Nat → Nat) (a : Act) (w : World), L.toList.count false = fuel → L.size = ops.length → DOk H0 w0 ops st ts L H ρ a w → wpAny Try.prog .any ops.toArray Q fuel L a w
  | 0, L, H, ρ, a, w, hc, hL, h => by
    have hall := all_listed hc
    refine ⟨?_, hQ a w ⟨H, ρ, hst ▸ h.fin hF hall hL⟩⟩
    cases hr : Region.ready .any ops.toArray L with
    | nil => rfl
    | cons x xs =>
      have : x ∈ Region.ready .any ops.toArray L := by rw [hr]; exact List.mem_cons_self
      rw [mem_ready] at this
      rw [hall x] at this
      cases this.1
  | fuel + 1, L, H, ρ, a, w, hc, hL, h => by
    refine ⟨fun hr => hQ a w ⟨H, ρ, hst ▸ h.fin hF (ready_nil hF hL hr) hL⟩, fun i hi => ?_⟩
    rw [mem_ready] at hi
    obtain ⟨hn, o, ho, hr⟩ := hi
    have ho' : ops[i]? = some o := by simpa using ho
    obtain ⟨τ, ef, _, _, hS⟩ := hF i o ho'
    unfold wpOp
    rw [ho]
    simp only
    have hw : Region.wanted o (yielded ops.toArray a.tmps) = true := by simp [Region.wanted, (side_ok hS).guard]
    rw [if_pos hw]
    refine .inl (DOk.step hC hF ho' hn hr h fun H' ρ' a' w' h' => any_ok hC hF hst hQ fuel _ H' ρ' a' w' ?_ (by simpa using hL) h')
    have hli : L.toList[i]? = some false := by
      rw [Array.getD_eq_getD_getElem?] at hn
      cases e : L[i]? with
      | none => rw [e] at hn; cases hn
      | some b => rw [e] at hn; simp at hn; subst hn; simpa using e
    have := count_set_ L.toList i hli
    rw [Array.toList_setIfInBounds]
    omega
theorem draw_ok (hC : CxOk cx) {st' : St} (hd : drawS cx ops st = some st') {id : Nat} {Q : Exit → Act → World → Prop} (h : S H0 w0 st a w) (hQ : ∀ a w, S H0 w0 st' a w → Q .normal a w) (hm : Try.prog.follows .mixedOrders = true) : (Go.Code.region id ops.toArray true).wp Try.prog Q a w := by
  unfold drawS at hd
  rw [Option.map_eq_some_iff] at hd
  obtain ⟨ts, hts, hst⟩ := hd
  obtain ⟨_, _, h3⟩ := drawT_ok ops [] ts hts
  have hF : Found cx ops st ts := fun i o e => by
    obtain ⟨τ, ef, k1, k2, k3⟩ := h3 i o e
    simp only [List.length_nil, Nat.zero_add] at k1 k3
    exact ⟨τ, ef, k1, k2, k3⟩
  obtain ⟨H, ρ, h⟩ := h
  refine wp_region_any hm (any_ok hC hF hst.symm hQ _ _ H ρ a _ ?_ ?_ (DOk.begin ?_ ⟨h.size, h.defers, h.slots, h.box, h.inj, h.hw, ⟨h.fr.os, h.fr.tape, h.fr.output, h.fr.size, h.fr.le, h.fr.new, h.fr.old⟩⟩))
  · simp
  · simp
  · intro i
    rw [Array.getD_eq_getD_getElem?]
    cases e : (Array.replicate ops.toArray.size false)[i]? with
    | none => rfl
    | some b =>
      rw [Array.getElem?_replicate] at e
      split at e
      · injection e with e; exact e.symm
      · cases e
end
/-! ### Boxes that are still zero, taken wider ahead of a drawn region -/
def isZ : Cel → Bool
  | .cr a b => decide (a = 0) && decide (b = 0)
  | .ck x => !x
  | .cl _ own lo hi => own && lo == 0 && hi == 0
  | _ => false
def widsC : List Cel → List Cel → List Cel
  | x :: xs, y :: ys => (if isZ x && x.le y then y else x) :: widsC xs ys
  | xs, _ => xs
def wideK (cx : Cx) (t : TypeId) (ks : List Cel) : List Cel := match cx.ti t with
  | some i => widsC ks i.std
  | none => ks
def St.wide (cx : Cx) (st : St) : St := ⟨st.G, st.D.map fun x => (x.1, x.2.1, wideK cx x.2.1 x.2.2)⟩
theorem CsOk.wide {H : Hp} : ∀ {ks ls : List Cel} {vs : List Value}, CsOk H ks vs → CsOk H (widsC ks ls) vs
  | [], _, _, h => by simpa [widsC] using h
  | _ :: _, [], _, h => by simpa [widsC] using h
  | k :: ks, l :: ls, v :: vs, h => by
    refine ⟨?_, CsOk.wide h.2⟩
    split
    · rename_i hc
      simp only [Bool.and_eq_true] at hc
      exact h.1.le hc.2
    · exact h.1
theorem wide_lookD {cx : Cx} : ∀ {D : List (Nat × TypeId × List Cel)} {r : Nat} {x : TypeId × List Cel}, lookD (D.map fun x => (x.1, x.2.1, wideK cx x.2.1 x.2.2)) r = some x → ∃ ks, lookD D r = some (x.1, ks) ∧ x.2 = wideK cx x.1 ks
  | [], r, x, h => by simp [lookD] at h
  | y :: D, r, x, h => by
    unfold lookD at h ⊢
    rw [List.map_cons, List.find?_cons] at h
    rw [List.find?_cons]
    cases hy : (y.1 == r) with
    | true =>
      simp only [hy, Option.map_some, Option.some.injEq] at h ⊢
      subst h
      exact ⟨y.2.2, rfl, rfl⟩
    | false =>
      simp only [hy] at h ⊢
      exact wide_lookD h
theorem S.wide {H0 : Hp} {w0 : World} {cx : Cx} {st : St} {a : Act} {w : World} (h : S H0 w0 st a w) : S H0 w0 (st.wide cx) a w := by
  obtain ⟨H, ρ, h⟩ := h
  refine ⟨H, ρ, h.size, h.defers, h.slots, fun r t ks e => ?_, fun r r' x x' e e' hne => ?_, h.hw, h.fr⟩
  · obtain ⟨ks', e1, e2⟩ := wide_lookD e
    simp only at e1 e2
    obtain ⟨⟨cs, b1, b2⟩, b3, b4⟩ := h.box r t ks' e1
    refine ⟨⟨cs, b1, ?_⟩, b3, b4⟩
    rw [e2]
    unfold wideK
    split
    · exact b2.wide
    · exact b2
  · obtain ⟨k1, e1, _⟩ := wide_lookD e
    obtain ⟨k2, e2, _⟩ := wide_lookD e'
    exact h.inj r r' _ _ e1 e2 hne
/-! ### Code -/
structure Out where
  nrm : List St
  ex : List (Nat × St)
  ret : List St
def splitC (k : Cel) (n : Nat) : Option (Cel × Cel) :=
  match k with
  | .cl g o lo hi => if decide (lo < n) && decide (n ≤ hi) then some (.cl g o lo (n - 1), .cl g o n hi) else none
  | _ => none
/-- The two cases of a list's length. -/
def St.split (st : St) (r c n : Nat) : List St :=
  match lookD st.D r with
  | some (t, ks) => match ks[c]? with
    | some k => match splitC k n with
      | some (x, y) => [⟨st.G, (r, t, ks.set c x) :: delD st.D r⟩, ⟨st.G, (r, t, ks.set c y) :: delD st.D r⟩]
      | none => [st]
    | none => [st]
  | none => [st]
def hint (hs : List (Nat × Nat × Nat × Nat)) (id : Nat) (st : St) : List St :=
  match hs.find? (fun x => x.1 == id) with
  | some (_, r, c, n) => st.split r c n
  | none => [st]
def joinAll : List St → Option (List St)
  | [] => some []
  | st :: r => (r.foldlM (fun (x y : St) => x.join y) st).map fun z => [z]
def outs (f : St → Option Out) : List St → Option Out
  | [] => some ⟨[], [], []⟩
  | st :: r => match f st, outs f r with
    | some o, some p => some ⟨o.nrm ++ p.nrm, o.ex ++ p.ex, o.ret ++ p.ret⟩
    | _, _ => none
def chk (cx : Cx) : Nat → Go.Code → St → Option Out
  | 0, _, _ => none
  | n + 1, c, st => match c with
    | .skip => some ⟨[st], [], []⟩
    | .region id ops dr => outs (fun st => (if dr then drawS cx ops.toList (st.wide cx) else seqS cx ops 0 ops.toList st).map fun z => ⟨[z], [], []⟩) (hint cx.hints id st)
    | .seq x y => match chk cx n x st with
      | some o => match outs (chk cx n y) o.nrm with
        | some p => some ⟨p.nrm, o.ex ++ p.ex, o.ret ++ p.ret⟩
        | none => none
      | none => none
    | .cond c x y => match look st.G c with
      | .tv [.ck true] false => chk cx n x st
      | .tv [.ck false] false => chk cx n y st
      | .tv [.cb] false => match chk cx n x st, chk cx n y st with
        | some o, some p => (joinAll (o.nrm ++ p.nrm)).map fun zs => ⟨zs, o.ex ++ p.ex, o.ret ++ p.ret⟩
        | _, _ => none
      | _ => none
    | .block id x => match chk cx n x st with
      | some o => (joinAll (o.nrm ++ (o.ex.filter fun q => q.1 == id).map (·.2))).map fun zs => ⟨zs, o.ex.filter (fun q => q.1 != id), o.ret⟩
      | none => none
    | .loop x => match chk cx n x st with
      | some o => match joinAll o.nrm with
        | some zs => match outs (chk cx n (.loop x)) zs with
          | some p => some ⟨p.nrm, o.ex ++ p.ex, o.ret ++ p.ret⟩
          | none => none
        | none => none
      | none => none
    | .exit id => some ⟨[], [(id, st)], []⟩
    | .ret => some ⟨[], [], [st]⟩
    | _ => none

section
variable {H0 : Hp} {w0 : World} {cx : Cx}
/-- Q takes whatever comes out. -/
structure QOk (H0 : Hp) (w0 : World) (o : Out) (Q : Exit → Act → World → Prop) : Prop where
  nrm : ∀ st ∈ o.nrm, ∀ a w, S H0 w0 st a w → Q .normal a w
  ex : ∀ q ∈ o.ex, ∀ a w, S H0 w0 q.2 a w → Q (.exit q.1) a w
  ret : ∀ st ∈ o.ret, ∀ a w, S H0 w0 st a w → Q .ret a w
theorem joinF_ok : ∀ (r : List St) (x z : St), r.foldlM (fun (x y : St) => x.join y) x = some z → ∀ st ∈ x :: r, ∀ a w, S H0 w0 st a w → S H0 w0 z a w
  | [], x, z, h, st, hm, a, w, hs => by
    have h2 : x = z := by simpa using h
    subst h2
    rw [List.mem_singleton] at hm
    subst hm
    exact hs
  | y :: r, x, z, h, st, hm, a, w, hs => by
    simp only [List.foldlM_cons] at h
    cases hj : x.join y with
    | none => rw [hj] at h; cases h
    | some u =>
      rw [hj] at h
      have h' : r.foldlM (fun (x y : St) => x.join y) u = some z := h
      rcases List.mem_cons.1 hm with rfl | hm
      · exact joinF_ok r u z h' u List.mem_cons_self a w ((S.join hj).1 hs)
      · rcases List.mem_cons.1 hm with rfl | hm
        · exact joinF_ok r u z h' u List.mem_cons_self a w ((S.join hj).2 hs)
        · exact joinF_ok r u z h' st (List.mem_cons_of_mem _ hm) a w hs
theorem joinAll_ok {l zs : List St} (h : joinAll l = some zs) {st : St} (hm : st ∈ l) {a : Act} {w : World} (hs : S H0 w0 st a w) : ∃ z ∈ zs, S H0 w0 z a w := by
  cases l with
  | nil => cases hm
  | cons x r =>
    simp only [joinAll, Option.map_eq_some_iff] at h
    obtain ⟨z, h1, rfl⟩ := h
    exact ⟨z, List.mem_singleton.2 rfl, joinF_ok r x z h1 st hm a w hs⟩
theorem outs_ok {f : St → Option Out} : ∀ {l : List St} {o : Out}, outs f l = some o → ∀ st ∈ l, ∃ p, f st = some p ∧ ∀ Q, QOk H0 w0 o Q → QOk H0 w0 p Q
  | x :: r, o, h, st, hm => by
    unfold outs at h
    cases h1 : f x with
    | none => rw [h1] at h; simp at h
    | some p =>
      cases h2 : outs f r with
      | none => rw [h1, h2] at h; simp at h
      | some q =>
        rw [h1, h2] at h
        simp only [Option.some.injEq] at h
        subst h
        rcases List.mem_cons.1 hm with rfl | hm
        · exact ⟨p, h1, fun Q hQ => ⟨fun st hm => hQ.nrm st (List.mem_append_left _ hm), fun st hm => hQ.ex st (List.mem_append_left _ hm), fun st hm => hQ.ret st (List.mem_append_left _ hm)⟩⟩
        · obtain ⟨p', h3, h4⟩ := outs_ok h2 st hm
          exact ⟨p', h3, fun Q hQ => h4 Q ⟨fun st hm => hQ.nrm st (List.mem_append_right _ hm), fun st hm => hQ.ex st (List.mem_append_right _ hm), fun st hm => hQ.ret st (List.mem_append_right _ hm)⟩⟩
theorem splitC_ok {H : Hp} {k x y : Cel} {n : Nat} (h : splitC k n = some (x, y)) {v : Value} (hv : COk H k v) : COk H x v ∨ COk H y v := by
  unfold splitC at h
  split at h
  · split at h
    · rename_i hc
      simp at hc
      injection h with h
      injection h with h1 h2
      subst h1; subst h2
      obtain ⟨A, m, c, e, k1, k2, k3, k4, k5⟩ := hv
      by_cases hm : m < n
      · exact .inl ⟨A, m, c, e, k1, by omega, k3, k4, k5⟩
      · exact .inr ⟨A, m, c, e, by omega, k2, k3, k4, k5⟩
    · cases h
  · cases h
theorem CsOk.set_ {H : Hp} : ∀ {ks : List Cel} {vs : List Value} {c : Nat} {k x : Cel}, CsOk H ks vs → ks[c]? = some k → (∀ v, vs[c]? = some v → COk H x v) → CsOk H (ks.set c x) vs
  | [], [], _, _, _, _, h, _ => by simp at h
  | _ :: _, v :: _, 0, _, _, h, _, hx => ⟨hx v rfl, h.2⟩
  | _ :: _, _ :: _, c + 1, _, _, h, e, hx => ⟨h.1, CsOk.set_ h.2 (by simpa using e) (fun v hv => hx v (by simpa using hv))⟩
theorem split_ok {st : St} {r c n : Nat} {a : Act} {w : World} (h : S H0 w0 st a w) : ∃ z ∈ st.split r c n, S H0 w0 z a w := by
  unfold St.split
  split
  · rename_i t ks hl
    split
    · rename_i k hk
      split
      · rename_i x y hxy
        obtain ⟨H, ρ, h⟩ := h
        obtain ⟨⟨cs, b1, b2⟩, b3, b4⟩ := h.box r t ks hl
        obtain ⟨v, hv1, hv2⟩ := b2.at_ c hk
        have put : ∀ u, COk H u v → S H0 w0 ⟨st.G, (r, t, ks.set c u) :: delD st.D r⟩ a w := fun u hu => by
          have hlk : ∀ r' x', lookD ((r, t, ks.set c u) :: delD st.D r) r' = some x' → ∃ x'', lookD st.D r' = some x'' := by
            intro r' x' e
            rw [lookD_cons] at e
            split at e
            · rename_i hr; subst hr; exact ⟨_, hl⟩
            · exact ⟨_, e⟩
          refine ⟨H, ρ, h.size, h.defers, h.slots, fun r' t' ks' e => ?_, fun r1 r2 x1 x2 e1 e2 hne => ?_, h.hw, h.fr⟩
          · simp only at e
            rw [lookD_cons] at e
            split at e
            · rename_i hr
              subst hr
              injection e with e
              injection e with e1 e2
              subst e1; subst e2
              exact ⟨⟨cs, b1, b2.set_ hk (fun v' hv' => by rw [hv1] at hv'; injection hv' with hv'; subst hv'; exact hu)⟩, b3, b4⟩
            · exact h.box r' t' ks' e
          · obtain ⟨y1, k1⟩ := hlk r1 x1 e1
            obtain ⟨y2, k2⟩ := hlk r2 x2 e2
            exact h.inj r1 r2 y1 y2 k1 k2 hne
        rcases splitC_ok hxy hv2 with h1 | h1
        · exact ⟨_, List.mem_cons_self, put x h1⟩
        · exact ⟨_, List.mem_cons_of_mem _ (List.mem_cons_self), put y h1⟩
      · exact ⟨st, List.mem_singleton.2 rfl, h⟩
    · exact ⟨st, List.mem_singleton.2 rfl, h⟩
  · exact ⟨st, List.mem_singleton.2 rfl, h⟩
theorem hint_ok {hs : List (Nat × Nat × Nat × Nat)} {id : Nat} {st : St} {a : Act} {w : World} (h : S H0 w0 st a w) : ∃ z ∈ hint hs id st, S H0 w0 z a w := by
  unfold hint
  split
  · exact split_ok h
  · exact ⟨st, List.mem_singleton.2 rfl, h⟩
theorem chk_ok (hC : CxOk cx) (hm : Try.prog.follows .mixedOrders = true) : ∀ (n : Nat) (c : Go.Code) (st : St) (o : Out) (Q : Exit → Act → World → Prop) (a : Act) (w : World), chk cx n c st = some o → QOk H0 w0 o Q → S H0 w0 st a w → c.wp Try.prog Q a w := by
  intro n
  induction n using Nat.strongRecOn with
  | _ n ih =>
    intro c st o Q a w h hQ hs
    cases n with
    | zero => simp [chk] at h
    | succ n =>
      have ihn := ih n (Nat.lt_succ_self n)
      cases c with
      | skip =>
        simp only [chk, Option.some.injEq] at h
        subst h
        exact wp_skip (hQ.nrm st (List.mem_singleton.2 rfl) a w hs)
      | region id ops dr =>
        simp only [chk] at h
        obtain ⟨z, hz, hsz⟩ := hint_ok (hs := cx.hints) (id := id) hs
        obtain ⟨p, h1, h2⟩ := outs_ok (H0 := H0) (w0 := w0) h z hz
        have hp := h2 Q hQ
        rw [Option.map_eq_some_iff] at h1
        obtain ⟨st', h3, rfl⟩ := h1
        have hq : ∀ a w, S H0 w0 st' a w → Q .normal a w := hp.nrm st' (List.mem_singleton.2 rfl)
        cases dr with
        | true => exact draw_ok hC h3 hsz.wide hq hm
        | false => exact wp_region_list (seq_ok hC ops.toList 0 z st' a w h3 hsz hq)
      | seq x y =>
        simp only [chk] at h
        cases h1 : chk cx n x st with
        | none => rw [h1] at h; cases h
        | some o1 =>
          rw [h1] at h
          simp only at h
          cases h2 : outs (chk cx n y) o1.nrm with
          | none => rw [h2] at h; cases h
          | some p =>
            rw [h2] at h
            simp only [Option.some.injEq] at h
            subst h
            refine wp_seq (ihn x st o1 _ a w h1 ⟨fun s hm' a w hs' => ?_, fun q hm' a w hs' => hQ.ex q (List.mem_append_left _ hm') a w hs', fun s hm' a w hs' => hQ.ret s (List.mem_append_left _ hm') a w hs'⟩ hs)
            obtain ⟨p', h3, h4⟩ := outs_ok (H0 := H0) (w0 := w0) h2 s hm'
            exact ihn y s p' Q a w h3 (h4 Q ⟨hQ.nrm, fun q hm' => hQ.ex q (List.mem_append_right _ hm'), fun s hm' => hQ.ret s (List.mem_append_right _ hm')⟩) hs'
      | cond c x y =>
        simp only [chk] at h
        have hs' := hs
        obtain ⟨H, ρ, hs'⟩ := hs'
        have hl := look_ok hs'.slots c
        split at h
        · rename_i e
          rw [e] at hl
          exact wp_cond_true hl.1 (ihn x st o Q a w h hQ hs)
        · rename_i e
          rw [e] at hl
          exact wp_cond_false hl.1 (ihn y st o Q a w h hQ hs)
        · rename_i e
          rw [e] at hl
          obtain ⟨b, hb⟩ : ∃ b, a.eval c = .bool b := hl.1
          cases h1 : chk cx n x st with
          | none => rw [h1] at h; simp at h
          | some o1 =>
            cases h2 : chk cx n y st with
            | none => rw [h1, h2] at h; simp at h
            | some o2 =>
              rw [h1, h2] at h
              simp only [Option.map_eq_some_iff] at h
              obtain ⟨zs, hj, rfl⟩ := h
              refine wp_cond_split hb (fun _ => ihn x st o1 Q a w h1 ⟨fun s hm' a w hs' => ?_, fun q hm' => hQ.ex q (List.mem_append_left _ hm'), fun q hm' => hQ.ret q (List.mem_append_left _ hm')⟩ hs)
                (fun _ => ihn y st o2 Q a w h2 ⟨fun s hm' a w hs' => ?_, fun q hm' => hQ.ex q (List.mem_append_right _ hm'), fun q hm' => hQ.ret q (List.mem_append_right _ hm')⟩ hs)
              · obtain ⟨z, hz, hsz⟩ := joinAll_ok hj (List.mem_append_left _ hm') hs'
                exact hQ.nrm z hz a w hsz
              · obtain ⟨z, hz, hsz⟩ := joinAll_ok hj (List.mem_append_right _ hm') hs'
                exact hQ.nrm z hz a w hsz
        · cases h
      | block id x =>
        simp only [chk] at h
        cases h1 : chk cx n x st with
        | none => rw [h1] at h; cases h
        | some o1 =>
          rw [h1] at h
          simp only [Option.map_eq_some_iff] at h
          obtain ⟨zs, hj, rfl⟩ := h
          refine wp_block (ihn x st o1 _ a w h1 ⟨fun s hm' a w hs' => ?_, fun q hm' a w hs' => ?_, fun s hm' a w hs' => hQ.ret s hm' a w hs'⟩ hs)
          · obtain ⟨z, hz, hsz⟩ := joinAll_ok hj (List.mem_append_left _ hm') hs'
            exact hQ.nrm z hz a w hsz
          · show if q.1 = id then Q .normal a w else Q (.exit q.1) a w
            split
            · rename_i hid
              obtain ⟨z, hz, hsz⟩ := joinAll_ok hj (List.mem_append_right _ (List.mem_map.2 ⟨q, List.mem_filter.2 ⟨hm', by simpa using hid⟩, rfl⟩)) hs'
              exact hQ.nrm z hz a w hsz
            · rename_i hid
              exact hQ.ex q (List.mem_filter.2 ⟨hm', by simpa using hid⟩) a w hs'
      | loop x =>
        refine wp_loop_ghost (fun m a w => m ≤ n + 1 ∧ ∃ st' o', chk cx m (.loop x) st' = some o' ∧ S H0 w0 st' a w ∧ QOk H0 w0 o' Q) (n + 1) ⟨Nat.le_refl _, st, o, h, hs, hQ⟩ ?_
        rintro m a' w' ⟨hmn, st', o', h', hs', hQ'⟩
        cases m with
        | zero => simp [chk] at h'
        | succ m =>
          simp only [chk] at h'
          cases h1 : chk cx m x st' with
          | none => rw [h1] at h'; cases h'
          | some o1 =>
            rw [h1] at h'
            simp only at h'
            cases hj : joinAll o1.nrm with
            | none => rw [hj] at h'; cases h'
            | some zs =>
              rw [hj] at h'
              simp only at h'
              cases h2 : outs (chk cx m (.loop x)) zs with
              | none => rw [h2] at h'; cases h'
              | some p =>
                rw [h2] at h'
                simp only [Option.some.injEq] at h'
                subst h'
                refine ih m (by omega) x st' o1 _ a' w' h1 ⟨fun s hm' a w hs' => ?_, fun q hm' a w hs' => hQ'.ex q (List.mem_append_left _ hm') a w hs', fun s hm' a w hs' => hQ'.ret s (List.mem_append_left _ hm') a w hs'⟩ hs'
                obtain ⟨z, hz, hsz⟩ := joinAll_ok hj hm' hs'
                obtain ⟨p', h3, h4⟩ := outs_ok (H0 := H0) (w0 := w0) h2 z hz
                exact ⟨m, Nat.lt_succ_self m, by omega, z, p', h3, hsz, h4 Q ⟨hQ'.nrm, fun q hm' => hQ'.ex q (List.mem_append_right _ hm'), fun s hm' => hQ'.ret s (List.mem_append_right _ hm')⟩⟩
      | exit id =>
        simp only [chk, Option.some.injEq] at h
        subst h
        exact wp_exit (hQ.ex (id, st) (List.mem_singleton.2 rfl) a w hs)
      | ret =>
        simp only [chk, Option.some.injEq] at h
        subst h
        exact wp_ret (hQ.ret st (List.mem_singleton.2 rfl) a w hs)
      | _ => simp [chk] at h
end
/-! ### Functions -/
def resS (cx : Cx) (st : St) : List ResultVar → Option (List (List Cel × Bool))
  | [] => some []
  | .tmp t :: r => match st.G.getD t .ta with
    | .tv ks ag => (resS cx st r).map ((ks, ag) :: ·)
    | _ => none
  | .cell p t :: r => match st.G.getD p .ta, cx.ti t with
    | .tp b o, some i => match lookD st.D b with
      | some (_, ks) => if ((ks.drop o).take i.size).length == i.size && i.row then (resS cx st r).map (((ks.drop o).take i.size, true) :: ·) else none
      | none => none
    | _, _ => none
def resT : List (List Cel × Bool) → Ty
  | [x] => .tv x.1 x.2
  | l => .tt l
def chkFn (cx : Cx) (fuel : Nat) (fn : Func) (ts : List (List Cel × Bool)) (τ : Ty) : Bool :=
  match fn.body with
  | some c => decide (ts.length ≤ fn.ntmps) && (match chk cx fuel c ⟨ts.map (fun x => .tv x.1 x.2) ++ List.replicate (fn.ntmps - ts.length) .ta, []⟩ with
    | some o => o.ex.isEmpty && (o.nrm ++ o.ret).all fun st => match resS cx st fn.results.toList with
      | some l => (resT l).le τ
      | none => false
    | none => false)
  | none => false
section
variable {H0 : Hp} {w0 : World} {cx : Cx}
def resF (a : Act) : ResultVar → Sem Value
  | .tmp t => pure (a.tmps.getD t undef)
  | .cell p t => do loadVar t (← asAddr (a.tmps.getD p undef))
theorem results_eq (fn : Func) (a : Act) : results fn a.tmps = (do let vs ← fn.results.mapM (resF a); pure (if h : vs.size = 1 then vs[0] else .tuple vs)) := by
  unfold results
  congr 1
theorem asAddr_some (x : Addr) : asAddr (.pointer (some x)) = pure x := rfl
theorem res_ok (hC : CxOk cx) {H : Hp} {ρ : Nat → Nat} {st : St} {a : Act} {w : World} (h : SOk H0 w0 H ρ st a w) : ∀ (rs : List ResultVar) (l : List (List Cel × Bool)), resS cx st rs = some l →
    ∃ vs : List Value, (rs.mapM (resF a)).run Try.prog w = .ok vs w ∧ TsOk H l vs
  | [], l, e => by simp [resS] at e; subst e; exact ⟨[], by simp, trivial⟩
  | .tmp t :: rs, l, e => by
    simp only [resS] at e
    have hs := h.slots t
    split at e
    · rename_i ks ag hg
      rw [hg] at hs
      rw [Option.map_eq_some_iff] at e
      obtain ⟨l', e', rfl⟩ := e
      obtain ⟨vs, h1, h2⟩ := res_ok hC h rs l' e'
      refine ⟨a.tmps.getD t undef :: vs, ?_, hs, h2⟩
      rw [List.mapM_cons]
      simp only [resF, Sem.run_bind, Sem.run_pure, Result.andThen_ok, h1]
    · cases e
  | .cell p t :: rs, l, e => by
    simp only [resS] at e
    have hs := h.slots p
    split at e
    · rename_i b o i hg hi
      rw [hg] at hs
      split at e
      · rename_i bt ks hb
        split at e
        · rename_i hc
          simp only [Bool.and_eq_true, beq_iff_eq] at hc
          rw [Option.map_eq_some_iff] at e
          obtain ⟨l', e', rfl⟩ := e
          obtain ⟨vs, h1, h2⟩ := res_ok hC h rs l' e'
          obtain ⟨hti, rfl⟩ := Cx.ti_ok hC hi
          obtain ⟨us, hr, hu⟩ := box_range (h.box b bt ks hb).1 o i.size
          obtain ⟨v, hrun, hvk⟩ := run_load_ti hti hr hu hc.1
          have hp : a.tmps.getD p undef = .pointer (some ⟨ρ b, o, none⟩) := hs
          refine ⟨v :: vs, ?_, by rw [hc.2] at hvk; exact hvk, h2⟩
          rw [List.mapM_cons]
          simp only [Instr.loadAt, Instr.sureAddr, Sem.run_bind, Sem.run_pure, Result.andThen_ok] at hrun
          simp only [resF, hp, asAddr_some, Sem.run_bind, Sem.run_pure, Result.andThen_ok, hrun, h1]
        · cases e
      · cases e
    · cases e
theorem resT_ok {H : Hp} {l : List (List Cel × Bool)} {vs : List Value} (h : TsOk H l vs) : TOk H id (resT l) (if hh : vs.toArray.size = 1 then vs.toArray[0] else .tuple vs.toArray) := by
  match l, vs, h with
  | [], [], _ => exact ⟨[], rfl, trivial⟩
  | [x], [v], h => exact h.1
  | x :: y :: l, v :: u :: vs, h =>
    have hn : ¬ ((v :: u :: vs).toArray.size = 1) := by simp
    rw [dif_neg hn]
    exact ⟨_, rfl, h⟩
theorem con_of (hC : CxOk cx) (hm : Try.prog.follows .mixedOrders = true) {f : FuncId} {fn : Func} {ts : List (List Cel × Bool)} {τ : Ty} {fuel : Nat} (hf : Try.prog.funcs[f]? = some fn) (hn : (fn.name == "runtime.NumGoroutine") = false) (h : chkFn cx fuel fn ts τ = true) : Con f ts τ := by
  unfold chkFn at h
  cases hb : fn.body with
  | none => rw [hb] at h; cases h
  | some c =>
    rw [hb] at h
    simp only [Bool.and_eq_true, decide_eq_true_eq] at h
    obtain ⟨hl, h⟩ := h
    cases hk : chk cx fuel c ⟨ts.map (fun x => .tv x.1 x.2) ++ List.replicate (fn.ntmps - ts.length) .ta, []⟩ with
    | none => rw [hk] at h; cases h
    | some o =>
      rw [hk] at h
      simp only [Bool.and_eq_true] at h
      obtain ⟨hex, hall⟩ := h
      refine ⟨⟨fn, hf, hn, by rw [hb]; rfl⟩, fun H w vs hW hts => ?_⟩
      have hlen := hts.len
      refine calls_of_wp hf hb (chk_ok (H0 := H) (w0 := w) hC hm fuel c _ o _ _ _ hk ?_ ⟨H, id, ?_⟩)
      · have fin : ∀ st ∈ o.nrm ++ o.ret, ∀ a w', S H w st a w' → a.defers = [] ∧ ∃ v, (results fn a.tmps).run Try.prog w' = .ok v w' ∧ ∃ v' H', Ending.returned v = .returned v' ∧ TOk H' id τ v' ∧ HW H' w' ∧ Fr H w H' w' := by
          rintro st hst a w' ⟨H', ρ, hs⟩
          have h1 := List.all_eq_true.1 hall st hst
          cases hr : resS cx st fn.results.toList with
          | none => rw [hr] at h1; cases h1
          | some l =>
            rw [hr] at h1
            simp only at h1
            obtain ⟨us, h2, h3⟩ := res_ok hC hs fn.results.toList l hr
            refine ⟨hs.defers, _, ?_, _, H', rfl, (resT_ok h3).le h1, hs.hw, hs.fr⟩
            rw [results_eq, Array.mapM_eq_mapM_toList]
            simp only [Sem.run_bind, Sem.run_map, h2, Result.andThen_ok]
            rfl
        refine ⟨fun st hst a w' hs => fin st (List.mem_append_left _ hst) a w' hs, fun q hq => ?_, fun st hst a w' hs => fin st (List.mem_append_right _ hst) a w' hs⟩
        have : o.ex = [] := by simpa using hex
        rw [this] at hq
        cases hq
      · refine ⟨?_, rfl, fun i => ?_, fun r t ks e => by simp [lookD] at e, fun r r' x x' e => by simp [lookD] at e, hW, Fr.refl _ _⟩
        · simp [hlen]
        · simp only [List.getD_eq_getElem?_getD, Array.getD_eq_getD_getElem?]
          by_cases hi : i < ts.length
          · rw [List.getElem?_append_left (by simpa using hi), List.getElem?_map, List.getElem?_eq_getElem hi]
            obtain ⟨v, hv, hvk⟩ := hts.at_ i (List.getElem?_eq_getElem hi)
            rw [Array.getElem?_append_left (by simp; omega)]
            simp only [List.getElem?_toArray, hv]
            exact hvk
          · rw [List.getElem?_append_right (by simp; omega), List.getElem?_replicate]
            split <;> trivial
end
end Go.Proofs.Ytdnjdbafffifeaa
