/-
  THE CHECKER OF SHAPES, one operation: what shape its result has, what it does to the boxes; and that it is so. Condition: the types' and the callees' facts of the table (CxOk).
-/
import Derived.Test.YtdnjdbafffifeaaTy
import Derived.Test.YtdnjdbafffifeaaWhole
set_option linter.unusedVariables false
set_option linter.unusedSimpArgs false
namespace Go.Proofs.Ytdnjdbafffifeaa
open Go.ChangeShapes Go.WideShapes Go.ChangeAt Go.RowKit

/-- A type: its size, is it a struct, its cells as they are and as they begin, its fields' places and sizes. -/
structure TI where
  id : TypeId
  size : Nat
  row : Bool
  std : List Cel
  zero : List Cel
  fl : List (Nat × Nat)
structure Cx where
  tis : List TI
  env : List (FuncId × List (List Cel × Bool) × Ty)
  hints : List (Nat × Nat × Nat × Nat)
def Cx.ti (cx : Cx) (t : TypeId) : Option TI := cx.tis.find? (fun i => i.id == t)
def look (G : List Ty) : Operand → Ty
  | .tmp t => G.getD t .ta
  | .const (.int .i64 z) => .tv [.cr z z] false
  | .const (.bool b) => .tv [.ck b] false
  | _ => .ta
/-- The range of an int. -/
def rng : Cel → Option (Option (Int × Int))
  | .ci => some none
  | .cr a b => some (some (a, b))
  | _ => none
def cut (a b : Int) : Cel := if decide (-1000000000 ≤ a) && decide (b ≤ 1000000000) then .cr a b else .ci
def addC : Option (Int × Int) → Option (Int × Int) → Cel
  | some x, some y => cut (x.1 + y.1) (x.2 + y.2)
  | _, _ => .ci
def subC : Option (Int × Int) → Option (Int × Int) → Cel
  | some x, some y => cut (x.1 - y.2) (x.2 - y.1)
  | _, _ => .ci
def lssC : Option (Int × Int) → Option (Int × Int) → Cel
  | some x, some y => if x.2 < y.1 then .ck true else if y.2 ≤ x.1 then .ck false else .cb
  | _, _ => .cb
def eqlC : Option (Int × Int) → Option (Int × Int) → Cel
  | some x, some y => if decide (x.2 < y.1) || decide (y.2 < x.1) then .ck false else if decide (x.1 = x.2) && decide (y.1 = y.2) && decide (x.1 = y.1) then .ck true else .cb
  | _, _ => .cb
def notC : Cel → Cel
  | .ck b => .ck (!b)
  | _ => .cb
def binC : BinOp → Option (Int × Int) → Option (Int × Int) → Option Cel
  | .add, x, y => some (addC x y)
  | .sub, x, y => some (subC x y)
  | .lss, x, y => some (lssC x y)
  | .gtr, x, y => some (lssC y x)
  | .leq, x, y => some (notC (lssC y x))
  | .geq, x, y => some (notC (lssC x y))
  | .eql, x, y => some (eqlC x y)
  | .neq, x, y => some (notC (eqlC x y))
  | _, _, _ => none
def slt (got : Bool) : TypeId := if got then 41 else 27
/-- Parts of a struct, laid over its zero. -/
def fillC (fl : List (Nat × Nat)) : List Cel → List (Nat × Ty) → Option (List Cel)
  | cs, [] => some cs
  | cs, (f, .tv ls _) :: rest => match fl[f]? with
    | some (o, sz) => if ls.length == sz && decide (o + ls.length ≤ cs.length) then fillC fl (cs.take o ++ ls ++ cs.drop (o + ls.length)) rest else none
    | none => none
  | _, _ => none
def isInts : List Cel → Bool
  | [] => true
  | k :: ks => (rng k).isSome && isInts ks
def lit (got : Bool) (len : Nat) : List (Nat × Ty) → Bool
  | [] => true
  | (i, .tv ls _) :: rest => ls.length == esz got && isInts ls && decide (i * esz got + esz got ≤ len * esz got) && lit got len rest
  | _ => false
/-- The contract of a callee at these arguments. -/
def fit (env : List (FuncId × List (List Cel × Bool) × Ty)) (f : FuncId) (ts : List (List Cel × Bool)) : Option Ty :=
  (env.find? fun x => x.1 == f && lesS ts x.2.1).map (·.2.2)
def argS : List Ty → Option (List (List Cel × Bool))
  | [] => some []
  | .tv ks ag :: r => (argS r).map ((ks, ag) :: ·)
  | _ => none
def opT (cx : Cx) (weak : Bool) (lk : Operand → Ty) (bx : Nat → Option (TypeId × List Cel)) (dst : Option Tmp) : Op → Option (Ty × Ef)
  | .move x => some (lk x, .en)
  | .assign x => some (lk x, .en)
  | .pick c x y => match lk c with
    | .tv [.ck true] false => some (lk x, .en)
    | .tv [.ck false] false => some (lk y, .en)
    | .tv [.cb] false => some ((lk x).join (lk y), .en)
    | _ => none
  | .alloc t => match dst, cx.ti t with
    | some d, some i => some (.tp d 0, .ew t (if weak then i.std else i.zero))
    | _, _ => none
  | .box t x => match dst, lk x with
    | some d, .tv ks _ => some (.tp d 0, .ew t ks)
    | _, _ => none
  | .build t parts => match cx.ti t with
    | some i => if i.row then (fillC i.fl i.zero (parts.toList.map fun p => (p.1, lk p.2))).map fun ks => (.tv ks true, .en) else none
    | none => none
  | .buildSlice t len parts =>
    if decide (len ≤ 100) && lit (t == slt true) len (parts.toList.map fun p => (p.1, lk p.2)) && (t == slt true || t == slt false) then some (.tv [.cl (t == slt true) true len len] false, .en) else none
  | .load t x => match lk x, cx.ti t with
    | .tp r o, some i => match bx r with
      | some (bt, ks) => if ((ks.drop o).take i.size).length == i.size then some (.tv ((ks.drop o).take i.size) i.row, .en) else none
      | none => none
    | .te got, some i => if t == elt got then some (.tv (if got then [.ci, .ci] else [.ci]) i.row, .en) else none
    | _, _ => none
  | .store t x y => match lk x, lk y, cx.ti t with
    | .tp r o, .tv ls ag, some i => match bx r with
      | some (bt, ks) => if ls.length == i.size && decide (o + ls.length ≤ ks.length) then
          (if weak then (if lesC ls ((ks.drop o).take ls.length) then some (.ta, .eu r bt ks) else none) else some (.ta, .eu r bt (ks.take o ++ ls ++ ks.drop (o + ls.length)))) else none
      | none => none
    | _, _, _ => none
  | .fieldAddr t x f => match lk x, cx.ti t with
    | .tp r o, some i => if i.row then (match i.fl[f]? with | some (off, _) => some (.tp r (o + off), .en) | none => none) else none
    | _, _ => none
  | .indexAddr t x ix => match lk x, lk ix with
    | .tv [.cl got own lo hi] false, .tv [.cr a b] false => if t == slt got && decide (1 ≤ lo) && decide (a = 0) && decide (b = 0) then some (.te got, .en) else none
    | _, _ => none
  | .slice t x (some low) none none => match lk x, lk low with
    | .tv [.cl got own lo hi] false, .tv [.cr a b] false => if t == slt got && decide (1 ≤ lo) && decide (a = 1) && decide (b = 1) then some (.tv [.cl got false (lo - 1) (hi - 1)] false, .en) else none
    | _, _ => none
  | .extract x n => match lk x with
    | .tt ts => match ts[n]? with | some (ks, ag) => some (.tv ks ag, .en) | none => none
    | _ => none
  | .binOp op _ x y _ => match lk x, lk y with
    | .tv [c] false, .tv [d] false => match rng c, rng d with
      | some p, some q => (binC op p q).map fun k => (.tv [k] false, .en)
      | _, _ => none
    | _, _ => none
  | .unOp .not _ x => match lk x with
    | .tv [.cb] false => some (.tv [.cb] false, .en)
    | .tv [.ck b] false => some (.tv [.ck (!b)] false, .en)
    | _ => none
  | .call c => match c.callee with
    | .value (.func f) => match argS (c.args.toList.map lk) with
      | some ts => (fit cx.env f ts).map fun τ => (τ, .en)
      | none => none
    | .builtin .len => match c.args.toList, c.argTypes.toList with
      | [x], [t] => match lk x with
        | .tv [.cl got _ lo hi] false => if t == slt got then some (.tv [.cr lo hi] false, .en) else none
        | _ => none
      | _, _ => none
    | .builtin .min => match c.args.toList with
      | [x, y] => match lk x, lk y with
        | .tv [c] false, .tv [d] false => if (rng c).isSome && (rng d).isSome then some (.tv [.ci] false, .en) else none
        | _, _ => none
      | _ => none
    | .builtin .append => match c.args.toList, c.argTypes.toList with
      | [x, y], [t, u] => match lk x, lk y with
        | .tv [.cl got true lo hi] false, .tv [.cl got' own' lo' hi'] false => if got == got' && t == slt got && u == slt got && decide (hi + hi' ≤ 1000000) then some (.tv [.cl got true (lo + lo') (hi + hi')] false, .en) else none
        | _, _ => none
      | _, _ => none
    | _ => none
  | _ => none

/-! ### What the table must be -/
def FlOk (fs : Array Field) (fl : List (Nat × Nat)) : Prop := fs.toList.map (fun f => (f.offset, (Try.prog.info? f.type).map (·.size))) = fl.map (fun x => (x.1, some x.2)) ∧ (fl.all fun x => x.2 != 0) = true
def TiOk (i : TI) : Prop := ∃ info z, Try.prog.info? i.id = some info ∧ info.size = i.size ∧ info.zero = some z ∧ CsOk (fun _ => none) i.zero z.cells.toList ∧ lesC i.zero i.std = true ∧ i.zero.length = i.size ∧
  (i.row = true → ∃ fs, Try.prog.underlying i.id = some (.struct fs) ∧ FlOk fs i.fl) ∧ (i.row = false → i.size = 1 ∧ ∃ d, Try.prog.underlying i.id = some d ∧ d.isRow = false)
/-- A callee at arguments of these shapes: it returns, its result has this shape; only lists' blocks have turned. -/
def Con (f : FuncId) (ts : List (List Cel × Bool)) (τ : Ty) : Prop :=
  (∃ fn, Try.prog.funcs[f]? = some fn ∧ (fn.name == "runtime.NumGoroutine") = false ∧ fn.body.isNone = false) ∧
  ∀ (H : Hp) (w : World) (vs : List Value), HW H w → TsOk H ts vs → Calls Try.prog f vs.toArray w fun e w' => ∃ v H', e = .returned v ∧ TOk H' id τ v ∧ HW H' w' ∧ Fr H w H' w'
structure CxOk (cx : Cx) : Prop where
  tis : ∀ i ∈ cx.tis, TiOk i
  env : ∀ x ∈ cx.env, Con x.1 x.2.1 x.2.2 ∧ ∀ r o, x.2.2 ≠ .tp r o
theorem Cx.ti_ok {cx : Cx} (hC : CxOk cx) {t : TypeId} {i : TI} (h : cx.ti t = some i) : TiOk i ∧ i.id = t := by
  unfold Cx.ti at h
  have h2 := List.find?_some h
  exact ⟨hC.tis i (List.mem_of_find?_eq_some h), by simpa using h2⟩

/-! ### One operation -/
def touched (ρ : Nat → Nat) : Ef → Nat → Prop
  | .eu r _ _, g => g = ρ r
  | _, _ => False
structure Post (H : Hp) (w : World) (ρ : Nat → Nat) (dst : Option Tmp) (τ : Ty) (ef : Ef) (v : Value) (H' : Hp) (ρ' : Nat → Nat) (w' : World) : Prop where
  val : TOk H' ρ' τ v
  hw : HW H' w'
  fr : FrX (touched ρ ef) H w H' w'
  ef : match ef with
    | .en => ρ' = ρ
    | .ew t ks => ∃ d g, dst = some d ∧ w.heap.size ≤ g ∧ H' g = none ∧ Box H' w' g t ks ∧ ρ' = fun x => if x = d then g else ρ x
    | .eu r t ks => ρ' = ρ ∧ Box H' w' (ρ r) t ks

section
variable {cx : Cx} {o : Oper} {a : Act} {K : Act → World → Prop} {Q : Exit → Act → World → Prop} {w w' : World} {H : Hp} {ρ : Nat → Nat}
theorem wp_val {v : Value} (hr : (execOp a.eval o).run Try.prog w = .ok (.value v) w') (h : K (a.put o.dst v) w') : Oper.wp Try.prog o a w K Q := by unfold Oper.wp; rw [hr]; exact h
theorem wp_non {v : Value} (hr : (execOp a.eval o).run Try.prog w = .ok .skip w') (h : K (a.put o.dst undef) w') : Oper.wp Try.prog o a w K Q := by unfold Oper.wp; rw [hr]; exact h
/-- A store goes into a box that is there. -/
def EuOk (bx : Nat → Option (TypeId × List Cel)) (weak : Bool) (ef : Ef) : Prop := ∀ r t ks, ef = .eu r t ks → ∃ q, bx r = some q ∧ (weak = true → q = (t, ks))
theorem euok_en (bx : Nat → Option (TypeId × List Cel)) (weak : Bool) : EuOk bx weak .en := fun r t ks e => by cases e
theorem euok_ew (bx : Nat → Option (TypeId × List Cel)) (weak : Bool) (t : TypeId) (ks : List Cel) : EuOk bx weak (.ew t ks) := fun r t ks e => by cases e
/-- An operation that yields a value and leaves the world alone. -/
theorem post_en {dst : Option Tmp} {τ : Ty} {v : Value} (hW : HW H w) (h : TOk H ρ τ v) : Post H w ρ dst τ .en v H ρ w :=
  ⟨h, hW, ⟨rfl, rfl, rfl, Nat.le_refl _, Hp.Le.refl H, fun g x h e => (by rw [h] at e; cases e), fun _ _ _ _ => rfl⟩, rfl⟩
theorem HW.of_fr {X : Nat → Prop} (hW : HW H w) (f : FrX X H w H w') (hX : ∀ g, X g → H g = none) (h : ∀ g x, H g = some x → w'.heap[g]? = w.heap[g]?) : HW H w' := fun g t m e => by
  obtain ⟨cs, h1, h2⟩ := hW g t m e
  exact ⟨cs, (h g _ e).trans h1, h2⟩
theorem HW.alloc (hW : HW H w) (ob : Obj) : HW H (w.alloc ob) := fun g t m e => by
  obtain ⟨cs, h1, h2⟩ := hW g t m e
  exact ⟨cs, (Below.heap_alloc w ob g (hW.lt e)).trans h1, h2⟩
theorem HW.new_none (hW : HW H w) : H w.heap.size = none := by
  cases e : H w.heap.size with
  | none => rfl
  | some x => have := hW.lt e; omega
theorem FrX.alloc {X : Nat → Prop} (H : Hp) (w : World) (ob : Obj) : FrX X H w H (w.alloc ob) :=
  ⟨rfl, rfl, rfl, by simp, Hp.Le.refl H, fun g x h e => (by rw [h] at e; cases e), fun g hg _ _ => Below.heap_alloc w ob g hg⟩
theorem post_ew {d : Nat} {t : TypeId} {ks : List Cel} {cs : List Value} (hW : HW H w) (h : CsOk H ks cs) :
    Post H w ρ (some d) (.tp d 0) (.ew t ks) (.pointer (some ⟨w.heap.size, 0, none⟩)) H (fun x => if x = d then w.heap.size else ρ x) (w.alloc (.cells cs.toArray t)) :=
  ⟨by simp [TOk], hW.alloc _, FrX.alloc H w _, ⟨d, w.heap.size, rfl, Nat.le_refl _, hW.new_none, ⟨cs, Blk.new w t cs.toArray, h⟩, rfl⟩⟩
theorem CsOk.none_ {ks : List Cel} {vs : List Value} (h : CsOk (fun _ => none) ks vs) : CsOk H ks vs := h.up (fun g x e => by cases e)
theorem look_ok {G : List Ty} (h : ∀ i, TOk H ρ (G.getD i .ta) (a.tmps.getD i undef)) (x : Operand) : TOk H ρ (look G x) (a.eval x) := by
  unfold look
  split
  · exact h _
  · exact ⟨⟨_, rfl, Int.le_refl _, Int.le_refl _⟩, trivial⟩
  · exact ⟨rfl, trivial⟩
  · trivial
theorem box_range {t : TypeId} {ks : List Cel} {g : Nat} (h : Box H w g t ks) (o n : Nat) : ∃ vs : List Value, w.rangeAt g o vs ∧ CsOk H ((ks.drop o).take n) vs := by
  obtain ⟨cs, hb, hc⟩ := h
  exact ⟨(cs.drop o).take n, Blk.range hb o (n := n) (by simp), (hc.drop o).take n⟩
theorem int_of {c : Cel} {p : Option (Int × Int)} (h : rng c = some p) {v : Value} (hv : COk H c v) : ∃ z, v = .int .i64 z ∧ ∀ x, p = some x → x.1 ≤ z ∧ z ≤ x.2 := by
  cases c <;> simp [rng] at h
  case ci => subst h; obtain ⟨z, e⟩ := hv; exact ⟨z, e, fun x hx => by cases hx⟩
  case cr => subst h; obtain ⟨z, e, h1, h2⟩ := hv; exact ⟨z, e, fun x hx => by cases hx; exact ⟨h1, h2⟩⟩
theorem cut_ok {x y z : Int} (h1 : x ≤ z) (h2 : z ≤ y) : COk H (cut x y) (.int .i64 (IntKind.i64.wrap z)) := by
  unfold cut
  split
  · rename_i h
    simp at h
    rw [IntKind.wrap_i64]
    exact ⟨_, rfl, by omega, by omega⟩
  · exact ⟨_, rfl⟩
theorem notC_ok {k : Cel} {b : Bool} (hk : COk H k (.bool b)) : COk H (notC k) (.bool !b) := by
  unfold notC
  split
  · have : Value.bool b = Value.bool _ := hk; injection this with e; subst e; rfl
  · exact ⟨_, rfl⟩
theorem lssC_ok {p q : Option (Int × Int)} {x y : Int} (hp : ∀ u, p = some u → u.1 ≤ x ∧ x ≤ u.2) (hq : ∀ u, q = some u → u.1 ≤ y ∧ y ≤ u.2) : COk H (lssC p q) (.bool (decide (x < y))) := by
  unfold lssC
  split
  · rename_i u v
    have h1 := hp _ rfl; have h2 := hq _ rfl
    split
    · have : x < y := by omega
      simp [COk, this]
    · split
      · have : ¬ x < y := by omega
        simp [COk, this]
      · exact ⟨_, rfl⟩
  · exact ⟨_, rfl⟩
theorem eqlC_ok {p q : Option (Int × Int)} {x y : Int} (hp : ∀ u, p = some u → u.1 ≤ x ∧ x ≤ u.2) (hq : ∀ u, q = some u → u.1 ≤ y ∧ y ≤ u.2) : COk H (eqlC p q) (.bool (x == y)) := by
  unfold eqlC
  split
  · rename_i u v
    have h1 := hp _ rfl; have h2 := hq _ rfl
    split
    · rename_i h
      simp at h
      have : (x == y) = false := by simp; omega
      rw [this]; rfl
    · split
      · rename_i h
        simp at h
        have : (x == y) = true := by simp; omega
        rw [this]; rfl
      · exact ⟨_, rfl⟩
  · exact ⟨_, rfl⟩
theorem not_lt_le (x y : Int) : (!decide (y < x)) = decide (x ≤ y) := by
  by_cases h : y < x
  · have h2 : ¬ x ≤ y := by omega
    simp [h, h2]
  · have h2 : x ≤ y := by omega
    simp [h, h2]
/-- An operation on two ints. -/
theorem run_bin {op : BinOp} {p q : Option (Int × Int)} {k : Cel} (h : binC op p q = some k) {x y : Int} (hp : ∀ u, p = some u → u.1 ≤ x ∧ x ≤ u.2) (hq : ∀ u, q = some u → u.1 ≤ y ∧ y ≤ u.2) (t : TypeId) (s u : Operand) (w : World) :
    ∃ v, (do eqGuard op t s u (.int .i64 x) (.int .i64 y); binOp op t (.int .i64 x) (.int .i64 y) : Sem Value).run Try.prog w = .ok v w ∧ COk H k v := by
  cases op <;> simp [binC] at h <;> subst h
  case add =>
    refine ⟨_, by simp [eqGuard, binOp, Op.intArith]; rfl, ?_⟩
    unfold addC
    split
    · have h1 := hp _ rfl; have h2 := hq _ rfl
      exact cut_ok (by omega) (by omega)
    · exact ⟨_, rfl⟩
  case sub =>
    refine ⟨_, by simp [eqGuard, binOp, Op.intArith]; rfl, ?_⟩
    unfold subC
    split
    · have h1 := hp _ rfl; have h2 := hq _ rfl
      exact cut_ok (by omega) (by omega)
    · exact ⟨_, rfl⟩
  case eql => exact ⟨_, by simp [eqGuard, binOp, Op.intCmp], eqlC_ok hp hq⟩
  case neq => exact ⟨.bool (!(x == y)), by simp [eqGuard, binOp, Op.intCmp, bne], notC_ok (eqlC_ok hp hq)⟩
  case lss => exact ⟨_, by simp [eqGuard, binOp, Op.intCmp], lssC_ok hp hq⟩
  case gtr => exact ⟨_, by simp [eqGuard, binOp, Op.intCmp], lssC_ok hq hp⟩
  case leq => exact ⟨.bool (!decide (y < x)), by rw [not_lt_le]; simp [eqGuard, binOp, Op.intCmp], notC_ok (lssC_ok hq hp)⟩
  case geq => exact ⟨.bool (!decide (x < y)), by rw [not_lt_le]; simp [eqGuard, binOp, Op.intCmp], notC_ok (lssC_ok hp hq)⟩
/-! ### Loads, stores, addresses -/
theorem TiOk.size {i : TI} (h : TiOk i) : (Try.prog.info? i.id).map (·.size) = some i.size := by
  obtain ⟨info, z, h1, h2, _⟩ := h
  simp [h1, h2]
theorem run_load_ti {i : TI} (hi : TiOk i) {g off : Nat} {ls : List Cel} {vs : List Value} (hr : w.rangeAt g off vs) (hv : CsOk H ls vs) (hl : ls.length = i.size) :
    ∃ v, (Instr.loadAt i.id (.pointer (some ⟨g, off, none⟩))).run Try.prog w = .ok v w ∧ VOk H ls i.row v := by
  have hsz := hi.size
  have hlen := hv.len
  obtain ⟨info, z, h1, h2, h3, h4, h5, h5', h6, h7⟩ := hi
  cases hb : i.row with
  | true =>
    obtain ⟨fs, hu, _⟩ := h6 hb
    exact ⟨_, run_loadAt_mid w g off i.id vs _ hr hu rfl (hsz.trans (by rw [hlen, hl])), vs, rfl, hv⟩
  | false =>
    obtain ⟨hs, d, hu, hd⟩ := h7 hb
    obtain ⟨u, rfl⟩ : ∃ u, vs = [u] := by
      match vs, hlen with
      | [u], _ => exact ⟨u, rfl⟩
      | [], h => simp at h; omega
      | _ :: _ :: _, h => simp at h; omega
    have hc := hr 0 u rfl
    refine ⟨u, ?_, hv⟩
    have hagg : (isAgg i.id).run Try.prog w = .ok false w := by
      unfold isAgg
      rw [Sem.run_bind, run_underlying hu w]
      cases d <;> simp_all [TypeDesc.isRow]
    simp only [Nat.add_zero] at hc
    simp [Instr.loadAt, Instr.sureAddr, loadVar, Sem.run_bind, hagg, hc]
theorem run_store_ti {i : TI} (hi : TiOk i) {g off : Nat} {t : TypeId} {cs : List Value} {ls : List Cel} {ag : Bool} {v : Value} (hb : Blk w g t cs.toArray) (hv : VOk H ls ag v) (hl : ls.length = i.size) (ho : off + ls.length ≤ cs.length) :
    (Instr.storeAt i.id (.pointer (some ⟨g, off, none⟩)) v).run Try.prog w = .ok () (w.setCells g off v.cells.toList) := by
  have hc := hv.cells
  have hcl := hc.len
  have h1 : v.cells.size = i.size := by rw [← Array.length_toList, hcl, hl]
  obtain ⟨info, z, e1, e2, _⟩ := hi
  have hst := run_storeCells_cells (P := Try.prog) g off v.cells.toList 0 w (fun j hj => by simpa using (hb.there (o := off) (n := ls.length) (by simpa using ho) j (by omega)).1)
    (fun j hj => by simpa using (hb.there (o := off) (n := ls.length) (by simpa using ho) j (by omega)).2) (fun u hu => CsOk.one hc u hu)
  simp only [Nat.add_zero] at hst
  simp [Instr.storeAt, Instr.sureAddr, storeVar, sizeOf, typeInfo, e1, e2, h1, hst]
theorem FlOk.at_ {fs : Array Field} {fl : List (Nat × Nat)} (h : FlOk fs fl) {f off sz : Nat} (e : fl[f]? = some (off, sz)) : ∃ fd info, fs[f]? = some fd ∧ fd.offset = off ∧ Try.prog.info? fd.type = some info ∧ info.size = sz ∧ sz ≠ 0 := by
  obtain ⟨h1, h2⟩ := h
  have h3 := congrArg (fun l => l[f]?) h1
  simp only [List.getElem?_map, e, Option.map_some] at h3
  cases hf : fs.toList[f]? with
  | none => rw [hf] at h3; cases h3
  | some fd =>
    rw [hf] at h3
    simp only [Option.map_some, Option.some.injEq, Prod.mk.injEq] at h3
    obtain ⟨e1, e2⟩ := h3
    cases hq : Try.prog.info? fd.type with
    | none => rw [hq] at e2; cases e2
    | some info =>
      rw [hq] at e2
      have hz := List.all_eq_true.1 h2 _ (List.mem_of_getElem? e)
      exact ⟨fd, info, by simpa using hf, e1, hq, by simpa using e2, by simpa using hz⟩
theorem run_field {i : TI} (hi : TiOk i) (hr : i.row = true) {f off sz g p : Nat} (e : i.fl[f]? = some (off, sz)) : (Instr.fieldAt i.id (.pointer (some ⟨g, p, none⟩)) f).run Try.prog w = .ok (.pointer (some ⟨g, p + off, none⟩)) w := by
  obtain ⟨_, _, _, _, _, _, _, _, h6, _⟩ := hi
  obtain ⟨fs, hu, hfl⟩ := h6 hr
  obtain ⟨fd, info, h1, rfl, h2, rfl, h3⟩ := hfl.at_ e
  simp [Instr.fieldAt, run_underlying hu, h1, Instr.sureAddr, fieldPlace, sizeOf, typeInfo, h2, h3, Addr.add_mid]
/-! ### Literals -/
theorem foldl_set (off : Nat) : ∀ (vs : List Value) (k : Nat) (cs : Array Value), off + k + vs.length ≤ cs.size →
    ((vs.zipIdx k).foldl (fun (cs : Array Value) (x : Value × Nat) => cs.setIfInBounds (off + x.2) x.1) cs).toList = cs.toList.take (off + k) ++ vs ++ cs.toList.drop (off + k + vs.length)
  | [], k, cs, _ => by simp
  | v :: r, k, cs, hl => by
    simp only [List.length_cons] at hl
    have ho : off + k < cs.toList.length := by simp; omega
    rw [List.zipIdx_cons, List.foldl_cons, foldl_set off r (k + 1) _ (by simp; omega)]
    rw [Array.toList_setIfInBounds, ← Nat.add_assoc, List.take_set, List.drop_set_of_lt (by omega), List.take_succ_eq_append_getElem ho, List.set_append_right _ _ (by simp; omega)]
    simp only [List.length_take, Array.length_toList, List.length_cons]
    rw [Nat.min_eq_left (by simp at ho; omega), Nat.sub_self, List.set_cons_zero, show off + k + 1 + r.length = off + k + (r.length + 1) from by omega]
    simp
theorem fill_step (place : Nat → Option (Nat × Nat)) (cells : Array Value) (f : Nat) (v : Value) (rest : List (Nat × Value)) {off sz : Nat} (hp : place f = some (off, sz)) (h1 : v.cells.size = sz) (h2 : off + v.cells.size ≤ cells.size) :
    ∃ cells' : Array Value, Instr.fill place cells ((f, v) :: rest) = Instr.fill place cells' rest ∧ cells'.toList = cells.toList.take off ++ v.cells.toList ++ cells.toList.drop (off + v.cells.toList.length) := by
  refine ⟨v.cells.zipIdx.foldl (fun cs (x : Value × Nat) => cs.setIfInBounds (off + x.2) x.1) cells, ?_, ?_⟩
  · have h3 : ¬ (cells.size < off + v.cells.size) := by omega
    simp [Instr.fill, hp, h1, h3]
    intro h4
    omega
  · have h3 := foldl_set off v.cells.toList 0 cells (by simpa using h2)
    simp only [Nat.add_zero] at h3
    rw [← Array.foldl_toList, Array.toList_zipIdx]
    exact h3
theorem fill_ok {fl : List (Nat × Nat)} {place : Nat → Option (Nat × Nat)} (hp : ∀ (f : Nat) (x : Nat × Nat), fl[f]? = some x → place f = some x) (lk : Operand → Ty) (ev : Operand → Value) (hv : ∀ x, TOk H ρ (lk x) (ev x)) :
    ∀ (ps : List (Nat × Operand)) (ks ks' : List Cel) (cells : Array Value), fillC fl ks (ps.map fun p => (p.1, lk p.2)) = some ks' → CsOk H ks cells.toList →
      ∃ cells' : Array Value, Instr.fill place cells (ps.map fun p => (p.1, ev p.2)) = some cells' ∧ CsOk H ks' cells'.toList
  | [], ks, ks', cells, h, hc => by simp [fillC] at h; subst h; exact ⟨cells, rfl, hc⟩
  | (f, x) :: ps, ks, ks', cells, h, hc => by
    have hx := hv x
    simp only [List.map_cons] at h ⊢
    cases hl : lk x with
    | tv ls ag =>
      rw [hl] at h hx
      simp only [fillC] at h
      cases hf : fl[f]? with
      | none => rw [hf] at h; cases h
      | some q =>
        obtain ⟨off, sz⟩ := q
        rw [hf] at h
        simp only at h
        split at h
        · rename_i hc2
          simp at hc2
          have hcv : CsOk H ls (ev x).cells.toList := VOk.cells hx
          have e1 := hcv.len
          have e2 := hc.len
          obtain ⟨cells', h1, h2⟩ := fill_step place cells f (ev x) (ps.map fun p => (p.1, ev p.2)) (hp f _ hf) (by rw [← Array.length_toList, e1, hc2.1]) (by rw [← Array.length_toList (xs := cells), ← Array.length_toList, e1, e2]; exact hc2.2)
          rw [h1]
          refine fill_ok hp lk ev hv ps _ _ cells' h ?_
          rw [h2]
          exact CsOk.put off hc hcv
        · cases h
    | _ => rw [hl] at h; simp [fillC] at h
theorem run_places {fs : Array Field} {fl : List (Nat × Nat)} (h : FlOk fs fl) (w : World) : (fs.mapM fun f => (do pure (f.offset, ← sizeOf f.type) : Sem (Nat × Nat))).run Try.prog w = .ok fl.toArray w := by
  obtain ⟨h1, _⟩ := h
  rw [Array.mapM_eq_mapM_toList]
  have key : ∀ (l : List Field) (fl : List (Nat × Nat)), l.map (fun f => (f.offset, (Try.prog.info? f.type).map (·.size))) = fl.map (fun x => (x.1, some x.2)) →
      (l.mapM fun f => (do pure (f.offset, ← sizeOf f.type) : Sem (Nat × Nat))).run Try.prog w = .ok fl w := by
    intro l
    induction l with
    | nil => intro fl h; cases fl with
      | nil => simp
      | cons x r => simp at h
    | cons f l ih =>
      intro fl h
      cases fl with
      | nil => simp at h
      | cons x r =>
        simp only [List.map_cons, List.cons.injEq, Prod.mk.injEq] at h
        obtain ⟨⟨e1, e2⟩, h⟩ := h
        cases hq : Try.prog.info? f.type with
        | none => rw [hq] at e2; cases e2
        | some info =>
          rw [hq] at e2
          simp at e2
          have hi := ih r h
          rw [List.mapM_cons]
          simp only [Sem.run_bind, Sem.run_pure, sizeOf, typeInfo, run_program, Result.andThen_ok, hq] at hi ⊢
          rw [hi]
          simp [e1, e2]
  simp only [Sem.run_map, key _ _ h1, Result.andThen_ok]
theorem run_build {i : TI} (hi : TiOk i) (hr : i.row = true) (lk : Operand → Ty) (ev : Operand → Value) (hv : ∀ x, TOk H ρ (lk x) (ev x)) (parts : Array (Nat × Operand)) {ks : List Cel}
    (h : fillC i.fl i.zero (parts.toList.map fun p => (p.1, lk p.2)) = some ks) : ∃ v, (Instr.build i.id (parts.map fun (x : Nat × Operand) => (x.1, ev x.2))).run Try.prog w = .ok v w ∧ VOk H ks true v := by
  obtain ⟨info, z, e1, e2, e3, e4, e5, e5', h6, _⟩ := hi
  obtain ⟨fs, hu, hfl⟩ := h6 hr
  obtain ⟨cells', hf, hc⟩ := fill_ok (place := fun n => i.fl[n]?) (fl := i.fl) (fun f x e => e) lk ev hv parts.toList i.zero ks z.cells h e4.none_
  refine ⟨.agg cells', ?_, cells'.toList, by simp, hc⟩
  have hp := run_places hfl w
  simp only [bind_pure_comp] at hp
  simp [Instr.build, zeroValue, typeInfo, e1, e3, run_underlying hu, hp, hf]
/-! ### Lists -/
theorem sl_info (got : Bool) : Try.prog.underlying (slt got) = some (.slice (elt got)) := by cases got; exact Try.underlying27; exact Try.underlying41
theorem got_info2 : (Try.prog.info? 64).map (fun i => (i.zero, i.size, i.bytes)) = some (some (.agg #[.int .i64 0, .int .i64 0]), 2, 16) := by kernel_rfl
/-- The zero of an element. -/
def ez (got : Bool) : Value := if got then .agg #[.int .i64 0, .int .i64 0] else .int .i64 0
theorem el_info (got : Bool) : ∃ i, Try.prog.info? (elt got) = some i ∧ i.zero = some (ez got) ∧ i.size = esz got ∧ i.bytes = 8 * esz got := by
  cases got
  · have h := int_info
    cases e : Try.prog.info? 3 with
    | none => rw [e] at h; cases h
    | some i =>
      rw [e] at h
      simp at h
      exact ⟨i, e, h.1, h.2.1, h.2.2⟩
  · have h := got_info2
    cases e : Try.prog.info? 64 with
    | none => rw [e] at h; cases h
    | some i =>
      rw [e] at h
      simp at h
      exact ⟨i, e, h.1, h.2.1, h.2.2⟩
theorem ez_cells (got : Bool) : (ez got).cells.size = esz got ∧ AllI (ez got).cells.toList := by
  cases got
  · exact ⟨rfl, fun v hv => by simp [ez, Value.cells] at hv; exact ⟨0, hv⟩⟩
  · exact ⟨rfl, fun v hv => by simp [ez, Value.cells] at hv; exact ⟨0, hv⟩⟩
theorem AllI.app {xs ys : List Value} (h : AllI xs) (h' : AllI ys) : AllI (xs ++ ys) := fun v hv => (List.mem_append.1 hv).elim (h v) (h' v)
theorem AllI.take {xs : List Value} (h : AllI xs) (n : Nat) : AllI (xs.take n) := fun v hv => h v (List.mem_of_mem_take hv)
theorem AllI.drop {xs : List Value} (h : AllI xs) (n : Nat) : AllI (xs.drop n) := fun v hv => h v (List.mem_of_mem_drop hv)
theorem AllI.one {xs : List Value} (h : AllI xs) : ∀ v ∈ xs, v.oneCell' = true := fun v hv => by obtain ⟨z, rfl⟩ := h v hv; rfl
theorem zeros_all {got : Bool} (n : Nat) : AllI (Builtin.zeroCells (ez got).cells n).toList := by
  intro v hv
  simp only [Builtin.zeroCells, Array.toList_map, List.mem_map] at hv
  obtain ⟨j, _, rfl⟩ := hv
  have h := ez_cells got
  have hlt : j % (ez got).cells.size < (ez got).cells.size := Nat.mod_lt _ (by rw [h.1]; cases got <;> decide)
  rw [getElem!_pos (ez got).cells _ hlt]
  exact h.2 _ (by simp)
theorem ints_all {ks : List Cel} (h : isInts ks = true) : ∀ {vs : List Value}, CsOk H ks vs → AllI vs := by
  induction ks with
  | nil => intro vs hc; cases vs with
    | nil => intro v hv; cases hv
    | cons v r => exact hc.elim
  | cons k ks ih =>
    intro vs hc
    simp only [isInts, Bool.and_eq_true] at h
    cases vs with
    | nil => exact hc.elim
    | cons v r =>
      obtain ⟨p, hp⟩ := Option.isSome_iff_exists.1 h.1
      obtain ⟨z, e, _⟩ := int_of hp hc.1
      intro u hu
      rcases List.mem_cons.1 hu with rfl | hu
      · exact ⟨z, e⟩
      · exact ih h.2 hc.2 u hu
theorem lit_ok {got : Bool} {len : Nat} (lk : Operand → Ty) (ev : Operand → Value) (hv : ∀ x, TOk H ρ (lk x) (ev x)) : ∀ (ps : List (Nat × Operand)) (cells : Array Value), lit got len (ps.map fun p => (p.1, lk p.2)) = true → cells.size = len * esz got → AllI cells.toList →
      ∃ cells' : Array Value, Instr.fill (fun i => some (i * esz got, esz got)) cells (ps.map fun p => (p.1, ev p.2)) = some cells' ∧ cells'.size = len * esz got ∧ AllI cells'.toList
  | [], cells, _, hs, ha => ⟨cells, rfl, hs, ha⟩
  | (f, x) :: ps, cells, h, hs, ha => by
    have hx := hv x
    simp only [List.map_cons] at h ⊢
    cases hl : lk x with
    | tv ls ag =>
      rw [hl] at h hx
      simp only [lit, Bool.and_eq_true, beq_iff_eq, decide_eq_true_eq] at h
      obtain ⟨⟨⟨h1, h2⟩, h3⟩, h4⟩ := h
      have hcv : CsOk H ls (ev x).cells.toList := VOk.cells hx
      have e1 := hcv.len
      have e2 : (ev x).cells.size = esz got := by rw [← Array.length_toList, e1, h1]
      obtain ⟨cells', k1, k2⟩ := fill_step (fun i => some (i * esz got, esz got)) cells f (ev x) (ps.map fun p => (p.1, ev p.2)) rfl e2 (by rw [e2, hs]; exact h3)
      rw [k1]
      refine lit_ok lk ev hv ps cells' h4 ?_ ?_
      · rw [← Array.length_toList, k2]
        simp only [List.length_append, List.length_take, List.length_drop, Array.length_toList, e2, hs]
        omega
      · rw [k2]
        exact ((ha.take _).app (ints_all h2 hcv)).app (ha.drop _)
    | _ => rw [hl] at h; simp [lit] at h
/-- A list's block is added. -/
def Hp.add (H : Hp) (g : Nat) (t : TypeId) (m : Nat) : Hp := fun x => if x = g then some (t, m) else H x
theorem Hp.add_same (H : Hp) (g : Nat) (t : TypeId) (m : Nat) : (H.add g t m) g = some (t, m) := by simp [Hp.add]
theorem Hp.le_add {g : Nat} {t : TypeId} {m : Nat} (h : H g = none) : H.Le (H.add g t m) := fun x y e => by
  unfold Hp.add
  split
  · rename_i e2; subst e2; rw [h] at e; cases e
  · exact e
theorem HW.add (hW : HW H w) {g m : Nat} {t : TypeId} {cs : List Value} (hb : Blk w g t cs.toArray) (hm : cs.length = m) (ha : AllI cs) : HW (H.add g t m) w := fun x t' m' e => by
  unfold Hp.add at e
  split at e
  · rename_i e2
    subst e2
    injection e with e
    injection e with e3 e4
    subst e3; subst e4
    exact ⟨cs, hb, hm, ha⟩
  · exact hW x t' m' e
theorem fr_new {w1 : World} {g m : Nat} {t : TypeId} (hW : HW H w) (f : ∀ k, k < w.heap.size → w1.heap[k]? = w.heap[k]?) (hs : w.heap.size ≤ w1.heap.size) (ho : w1.os = w.os) (ht : w1.tape = w.tape) (hu : w1.output = w.output) (hg : g = w.heap.size) : Fr H w (H.add g t m) w1 :=
  ⟨ho, ht, hu, hs, Hp.le_add (by subst hg; exact hW.new_none), fun x y e e0 => (by
    unfold Hp.add at e
    split at e
    · omega
    · rw [e0] at e; cases e), fun x hx _ _ => f x hx⟩
theorem run_slit {t : TypeId} {got : Bool} (ht : t = slt got) (lk : Operand → Ty) (ev : Operand → Value) (hv : ∀ x, TOk H ρ (lk x) (ev x)) (parts : Array (Nat × Operand)) {len : Nat} (hlen : len ≤ 100) (h : lit got len (parts.toList.map fun p => (p.1, lk p.2)) = true) (hW : HW H w) :
    ∃ v H' w', (Instr.buildSlice t len (parts.map fun (x : Nat × Operand) => (x.1, ev x.2))).run Try.prog w = .ok v w' ∧ COk H' (.cl got true len len) v ∧ HW H' w' ∧ Fr H w H' w' := by
  subst ht
  obtain ⟨info, e1, e2, e3, _⟩ := el_info got
  have hz := ez_cells got
  have hsm : len * esz got ≤ 200 := by cases got <;> simp [esz] <;> omega
  have h0 : ∃ cells : Array Value, (Array.range (len * esz got)).map ((if len * esz got = 0 then (#[] : Array Value) else (ez got).cells)[· % (if len * esz got = 0 then (#[] : Array Value) else (ez got).cells).size]!) = cells ∧ cells.size = len * esz got ∧ AllI cells.toList := by
    refine ⟨_, rfl, by simp, fun v hv => ?_⟩
    simp only [Array.toList_map, List.mem_map, Array.toList_range, List.mem_range] at hv
    obtain ⟨j, hj, rfl⟩ := hv
    have hne : ¬ len * esz got = 0 := by omega
    simp only [if_neg hne]
    have hlt : j % (ez got).cells.size < (ez got).cells.size := Nat.mod_lt _ (by rw [hz.1]; cases got <;> decide)
    rw [getElem!_pos (ez got).cells _ hlt]
    exact hz.2 _ (by simp)
  obtain ⟨cells, hc1, hc2, hc3⟩ := h0
  obtain ⟨cells', k1, k2, k3⟩ := lit_ok lk ev hv parts.toList cells h hc2 hc3
  have hg : ¬ (16777216 < len * esz got) := by omega
  refine ⟨.slice (some ⟨w.heap.size, 0, none⟩) len len, H.add w.heap.size (elt got) (len * esz got), w.alloc (.cells cells' (elt got)), ?_, ?_, ?_, ?_⟩
  · by_cases h00 : len * esz got = 0
    · simp only [if_pos h00] at hc1
      have hc0 : cells = #[] := Array.eq_empty_of_size_eq_zero (by rw [hc2]; exact h00)
      subst hc0
      simp [Instr.buildSlice, run_underlying (sl_info got), sizeOf, typeInfo, e1, e3, hg, h00]
      have k1' : Instr.fill (fun i => some (i * esz got, esz got)) (Array.map (fun x => (default : Value)) (Array.range 0)) (List.map (fun x => (x.fst, ev x.snd)) parts.toList) = some cells' := by
        rw [show Array.map (fun x => (default : Value)) (Array.range 0) = #[] from Array.eq_empty_of_size_eq_zero (by simp)]
        exact k1
      rw [k1']
      simp [newRow]
    · simp only [if_neg h00] at hc1
      simp [Instr.buildSlice, run_underlying (sl_info got), sizeOf, typeInfo, zeroValue, e1, e2, e3, hg, h00]
      rw [hc1, k1]
      simp [newRow]
  · exact ⟨_, len, len, rfl, Nat.le_refl _, Nat.le_refl _, Nat.le_refl _, by unfold maxLen; omega, .inl ⟨rfl, .inr ⟨_, rfl, Hp.add_same _ _ _ _⟩⟩⟩
  · exact (hW.alloc _).add (cs := cells'.toList) (by simpa using Blk.new w (elt got) cells') (by simpa using k2) k3
  · exact fr_new hW (fun k hk => Below.heap_alloc w _ k hk) (by simp) rfl rfl rfl rfl
theorem run_idx {t : TypeId} {got own : Bool} (ht : t = slt got) {lo hi : Nat} (h1 : 1 ≤ lo) {v : Value} (hv : COk H (.cl got own lo hi) v) (hW : HW H w) :
    ∃ u, (Instr.indexAt t v (.int .i64 0)).run Try.prog w = .ok u w ∧ TOk H ρ (.te got) u := by
  subst ht
  obtain ⟨A, n, c, rfl, k1, k2, k3, k4, k5⟩ := hv
  have hn : 0 < n := by omega
  obtain ⟨info, e1, e2, e3, _⟩ := el_info got
  have hs : 1 ≤ esz got := by cases got <;> decide
  have key : ∃ g o m, A = some ⟨g, o, none⟩ ∧ H g = some (elt got, m) ∧ o + n * esz got ≤ m := by
    rcases k5 with ⟨_, ⟨rfl, h0, _⟩ | ⟨g, rfl, h⟩⟩ | ⟨_, h0 | ⟨g, o, m, rfl, h, hm⟩⟩
    · omega
    · exact ⟨g, 0, _, rfl, h, by have := Nat.mul_le_mul_right (esz got) k3; omega⟩
    · omega
    · exact ⟨g, o, m, rfl, h, hm⟩
  obtain ⟨g, o, m, rfl, h, hm⟩ := key
  refine ⟨.pointer (some ⟨g, o, none⟩), ?_, g, o, m, rfl, h, by have := Nat.mul_le_mul_right (esz got) (show 1 ≤ n by omega); omega⟩
  simp [Instr.indexAt, asIntOf, run_underlying (sl_info got), sizeOf, typeInfo, e1, hn, Addr.add]
theorem run_sl1 {t : TypeId} {got own : Bool} (ht : t = slt got) {lo hi : Nat} (h1 : 1 ≤ lo) {v : Value} (hv : COk H (.cl got own lo hi) v) (hW : HW H w) :
    ∃ u, (Instr.sliceAt t v (some (.int .i64 1)) none none).run Try.prog w = .ok u w ∧ COk H (.cl got false (lo - 1) (hi - 1)) u := by
  subst ht
  obtain ⟨A, n, c, rfl, k1, k2, k3, k4, k5⟩ := hv
  have hn : 1 ≤ n := by omega
  have hn2 : (1 : Int) ≤ (n : Int) := by omega
  obtain ⟨info, e1, e2, e3, _⟩ := el_info got
  have hs : 1 ≤ esz got := by cases got <;> decide
  have key : ∃ g o m, A = some ⟨g, o, none⟩ ∧ H g = some (elt got, m) ∧ o + n * esz got ≤ m := by
    rcases k5 with ⟨_, ⟨rfl, h0, _⟩ | ⟨g, rfl, h⟩⟩ | ⟨_, h0 | ⟨g, o, m, rfl, h, hm⟩⟩
    · omega
    · exact ⟨g, 0, _, rfl, h, by have := Nat.mul_le_mul_right (esz got) k3; omega⟩
    · omega
    · exact ⟨g, o, m, rfl, h, hm⟩
  obtain ⟨g, o, m, rfl, h, hm⟩ := key
  refine ⟨.slice (if c = 1 then some ⟨g, o, none⟩ else some ((⟨g, o, none⟩ : Addr).add (1 * esz got))) (n - 1) (c - 1), ?_, _, _, _, rfl, by omega, by omega, by omega, by unfold maxLen at k4 ⊢; omega, .inr ⟨rfl, ?_⟩⟩
  · simp [Instr.sliceAt, Instr.slice, Instr.sliceBounds, Instr.sliceBound, asIntOf, run_underlying (sl_info got), sizeOf, typeInfo, e1, e3, hn2]
  · by_cases hn1 : n = 1
    · exact .inl (by omega)
    · refine .inr ⟨g, o + esz got, m, ?_, h, ?_⟩
      · rw [if_neg (by omega), Nat.one_mul, Addr.add_mid]
      · obtain ⟨k, rfl⟩ : ∃ k, n = k + 1 := ⟨n - 1, by omega⟩
        rw [Nat.add_mul, Nat.one_mul] at hm
        simp only [Nat.add_sub_cancel]
        omega
theorem run_len {t : TypeId} {got own : Bool} (ht : t = slt got) (u : TypeId) {lo hi : Nat} {v : Value} (hv : COk H (.cl got own lo hi) v) : ∃ x, (Builtin.len_ #[t] u #[v]).run Try.prog w = .ok x w ∧ COk H (.cr lo hi) x := by
  subst ht
  obtain ⟨A, n, c, rfl, k1, k2, _⟩ := hv
  exact ⟨.int .i64 n, by simp [Builtin.len_, run_underlying (sl_info got), goInt], n, rfl, by omega, by omega⟩
/-- What can be read of a list. -/
theorem list_reads {got own : Bool} {lo hi : Nat} {v : Value} (hv : COk H (.cl got own lo hi) v) (hW : HW H w) : ∃ A n c xs, v = .slice A n c ∧ lo ≤ n ∧ n ≤ hi ∧ n ≤ c ∧ c ≤ maxLen ∧ Reads w w.heap.size (esz got) A n xs ∧ AllI xs := by
  obtain ⟨A, n, c, rfl, k1, k2, k3, k4, k5⟩ := hv
  rcases Nat.eq_zero_or_pos n with h0 | h0
  · subst h0
    exact ⟨A, 0, c, [], rfl, k1, k2, k3, k4, Reads.none_, fun v hv => by cases hv⟩
  have hs : 1 ≤ esz got := by cases got <;> decide
  have key : ∃ g o m, A = some ⟨g, o, none⟩ ∧ H g = some (elt got, m) ∧ o + n * esz got ≤ m := by
    rcases k5 with ⟨_, ⟨rfl, h0, _⟩ | ⟨g, rfl, h⟩⟩ | ⟨_, h0 | ⟨g, o, m, rfl, h, hm⟩⟩
    · omega
    · exact ⟨g, 0, _, rfl, h, by have := Nat.mul_le_mul_right (esz got) k3; omega⟩
    · omega
    · exact ⟨g, o, m, rfl, h, hm⟩
  obtain ⟨g, o, m, rfl, h, hm⟩ := key
  obtain ⟨cs, hb, hl, ha⟩ := hW g _ _ h
  refine ⟨_, n, c, (cs.drop o).take (n * esz got), rfl, k1, k2, k3, k4, ⟨?_, fun _ => ⟨_, rfl, hW.lt h, fun j u hu => ?_⟩⟩, (ha.drop _).take _⟩
  · rw [List.length_take, List.length_drop]; omega
  · rw [Addr.add_mid]
    exact (Blk.range hb o (n := n * esz got) rfl : w.rangeAt g o _) j u (by simpa using hu)
theorem run_app0 {got : Bool} (u : TypeId) (A B : Option Addr) (n c d : Nat) (h : n ≤ c) : (Builtin.append_ #[slt got, slt got] u #[.slice A n c, .slice B 0 d]).run Try.prog w = .ok (.slice A n c) w := by
  obtain ⟨info, e1, e2, e3, _⟩ := el_info got
  cases A <;> cases B <;> simp [Builtin.append_, run_underlying (sl_info got), sizeOf, typeInfo, e1, Builtin.lenOf, Builtin.firstCells, h, storeCells, loadCells, loadCellsFrom]
theorem AllI.cells_new {got : Bool} {xs ys : List Value} (hx : AllI xs) (hy : AllI ys) (k : Nat) : AllI (xs.toArray ++ ys.toArray ++ Builtin.zeroCells (ez got).cells k).toList := by
  simp only [Array.toList_append]
  exact (hx.app hy).app (zeros_all k)
/-- What an append leaves in a new block. -/
theorem app_new {got : Bool} {n cap lo hi : Nat} {cells : Array Value} (hW : HW H w) (h1 : lo ≤ n) (h2 : n ≤ hi) (h3 : n ≤ cap) (h4 : cap ≤ maxLen) (hs : cells.size = cap * esz got) (ha : AllI cells.toList) :
    ∃ H', COk H' (.cl got true lo hi) (.slice (some ⟨w.heap.size, 0, none⟩) n cap) ∧ HW H' (w.drew.alloc (.cells cells (elt got))) ∧ Fr H w H' (w.drew.alloc (.cells cells (elt got))) := by
  refine ⟨H.add w.heap.size (elt got) (cap * esz got), ⟨_, n, cap, rfl, h1, h2, h3, h4, .inl ⟨rfl, .inr ⟨_, rfl, Hp.add_same _ _ _ _⟩⟩⟩, ?_, ?_⟩
  · have hW' : HW H w.drew := hW
    exact (hW'.alloc (.cells cells (elt got))).add (cs := cells.toList) (by simpa using Blk.new w.drew (elt got) cells) (by simpa using hs) ha
  · exact fr_new hW (fun k hk => Below.heap_alloc w.drew _ k hk) (by simp) rfl rfl rfl rfl
theorem run_appT {got own : Bool} (u : TypeId) {lo hi lo' hi' : Nat} (hb : hi + hi' ≤ 1000000) {v1 v2 : Value} (hv1 : COk H (.cl got true lo hi) v1) (hv2 : COk H (.cl got own lo' hi') v2) (hW : HW H w) :
    ∃ v H' w', (Builtin.append_ #[slt got, slt got] u #[v1, v2]).run Try.prog w = .ok v w' ∧ COk H' (.cl got true (lo + lo') (hi + hi')) v ∧ HW H' w' ∧ Fr H w H' w' := by
  obtain ⟨A2, n2, c2, ys, rfl, j1, j2, j3, j4, hr, hy⟩ := list_reads hv2 hW
  have hv1' := hv1
  obtain ⟨A1, n1, c1, rfl, k1, k2, k3, k4, k5⟩ := hv1
  have hs : 1 ≤ esz got := by cases got <;> decide
  obtain ⟨info, e1, e2, e3, e4⟩ := el_info got
  have hby : info.bytes ≤ 16 := by rw [e4]; cases got <;> decide
  rcases Nat.eq_zero_or_pos n2 with h0 | h0
  · subst h0
    exact ⟨_, H, w, run_app0 u A1 A2 n1 c1 c2 k3, ⟨A1, n1, c1, rfl, by omega, by omega, k3, k4, k5⟩, hW, Fr.refl _ _⟩
  obtain ⟨ad, rfl, _, hc⟩ := hr.2 h0
  have hl : ys.length = n2 * info.size := by rw [hr.1, e3]
  rcases k5 with ⟨_, ⟨rfl, rfl, rfl⟩ | ⟨g, rfl, h⟩⟩ | ⟨hf, _⟩
  · have hrun := run_append_nil (P := Try.prog) w (slt got) u (elt got) info (ez got) (sl_info got) e1 e2 ad n2 c2 ys hl hc h0 (by omega) (Nat.le_trans (Nat.mul_le_mul (show n2 ≤ 1000000 by omega) hby) (by decide))
    have hge := grownCap_ge w n2 0 (elt got)
    have hle := grownCap_le_maxLen w n2 0 (elt got) (by unfold maxLen; omega)
    obtain ⟨H', p1, p2, p3⟩ := app_new (got := got) (cells := ys.toArray ++ Builtin.zeroCells (ez got).cells (grownCap w n2 0 (elt got) - n2)) hW (show lo + lo' ≤ n2 by omega) (show n2 ≤ hi + hi' by omega) hge hle
      (by simp only [Array.size_append, List.size_toArray, size_zeroCells, (ez_cells got).1, hr.1, ← Nat.add_mul, Nat.add_sub_of_le hge])
      (by simp only [Array.toList_append]; exact hy.app (zeros_all _))
    exact ⟨_, H', _, hrun, p1, p2, p3⟩
  · obtain ⟨cs, hbk, hcl, hca⟩ := hW g _ _ h
    by_cases hroom : n1 + n2 ≤ c1
    · have hrun := run_append_room (P := Try.prog) w (slt got) u (elt got) info (sl_info got) e1 g n1 c1 cs.toArray hbk ad n2 c2 ys hl hc hy.one hroom (by rw [e3, hr.1, ← Nat.add_mul]; simp only [List.size_toArray, hcl]; exact Nat.mul_le_mul_right _ hroom)
      refine ⟨_, H, _, hrun, ⟨_, n1 + n2, c1, rfl, by omega, by omega, hroom, k4, .inl ⟨rfl, .inr ⟨g, rfl, h⟩⟩⟩, ?_, ?_⟩
      · intro x t m e
        by_cases hx : x = g
        · subst hx
          rw [h] at e
          injection e with e
          injection e with e5 e6
          subst e5; subst e6
          refine ⟨_, setRow_heap w x cs.toArray _ (elt got) _ hbk, ?_, ((hca.take _).app hy).app (hca.drop _)⟩
          simp only [List.length_append, List.length_take, List.length_drop, hcl, e3, hr.1]
          have := Nat.mul_le_mul_right (esz got) hroom
          rw [Nat.add_mul] at this
          omega
        · obtain ⟨cs', q1, q2, q3⟩ := hW x t m e
          exact ⟨cs', (setRow_other w g x _ hx).trans q1, q2, q3⟩
      · exact ⟨rfl, rfl, rfl, by simp, Hp.Le.refl H, fun x y e e0 => (by rw [e] at e0; cases e0), fun x hx e _ => setRow_other w g x _ (fun e2 => by subst e2; rw [h] at e; cases e)⟩
    · have hrd := list_reads hv1' hW
      obtain ⟨A1', n1', c1', xs, q0, _, _, _, _, qr, qa⟩ := hrd
      injection q0 with q1 q2 q3
      subst q1; subst q2; subst q3
      have holds : ∀ j x, xs[j]? = some x → w.cell? ((⟨g, 0, none⟩ : Addr).add j) = some x := by
        intro j x hx
        rcases Nat.eq_zero_or_pos n1 with hz | hz
        · have : xs = [] := List.eq_nil_of_length_eq_zero (by rw [qr.1, hz]; simp)
          subst this
          simp at hx
        · obtain ⟨ad', q4, _, q5⟩ := qr.2 hz
          obtain rfl := Option.some.inj q4
          exact q5 j x hx
      have hrun := run_append_grow (P := Try.prog) w (slt got) u (elt got) info (ez got) (sl_info got) e1 e2 ⟨g, 0, none⟩ n1 c1 xs (by rw [qr.1, e3]) holds ad n2 c2 ys hl hc (by omega) (by omega) (growslice_fits (by omega) (Nat.le_trans (Nat.mul_le_mul (show n1 + n2 ≤ 1000000 by omega) hby) (by decide)))
      have hge := grownCap_ge w (n1 + n2) c1 (elt got)
      have hle := grownCap_le_maxLen w (n1 + n2) c1 (elt got) (by unfold maxLen; omega)
      obtain ⟨H', p1, p2, p3⟩ := app_new (got := got) (cells := xs.toArray ++ ys.toArray ++ Builtin.zeroCells (ez got).cells (grownCap w (n1 + n2) c1 (elt got) - (n1 + n2))) hW (show lo + lo' ≤ n1 + n2 by omega) (show n1 + n2 ≤ hi + hi' by omega) hge hle
        (by simp only [Array.size_append, List.size_toArray, size_zeroCells, (ez_cells got).1, hr.1, qr.1, ← Nat.add_mul, Nat.add_sub_of_le hge])
        (AllI.cells_new qa hy _)
      exact ⟨_, H', _, hrun, p1, p2, p3⟩
  · cases hf
theorem argS_ok (lk : Operand → Ty) (ev : Operand → Value) (hv : ∀ x, TOk H ρ (lk x) (ev x)) : ∀ (xs : List Operand) (ts : List (List Cel × Bool)), argS (xs.map lk) = some ts → TsOk H ts (xs.map ev)
  | [], ts, h => by simp [argS] at h; subst h; trivial
  | x :: xs, ts, h => by
    have hx := hv x
    simp only [List.map_cons] at h ⊢
    cases hl : lk x with
    | tv ks ag =>
      rw [hl] at h hx
      simp only [argS, Option.map_eq_some_iff] at h
      obtain ⟨r, h1, rfl⟩ := h
      exact ⟨hx, argS_ok lk ev hv xs r h1⟩
    | _ => rw [hl] at h; simp [argS] at h
theorem fit_ok {env : List (FuncId × List (List Cel × Bool) × Ty)} {f : FuncId} {ts : List (List Cel × Bool)} {τ : Ty} (h : fit env f ts = some τ) : ∃ us, (f, us, τ) ∈ env ∧ lesS ts us = true := by
  unfold fit at h
  rw [Option.map_eq_some_iff] at h
  obtain ⟨⟨g, us, τ'⟩, h1, rfl⟩ := h
  have h2 := List.find?_some h1
  simp only [Bool.and_eq_true, beq_iff_eq] at h2
  obtain ⟨rfl, h2⟩ := h2
  exact ⟨us, List.mem_of_find?_eq_some h1, h2⟩
theorem TOk.rho {τ : Ty} (hn : ∀ r o, τ ≠ .tp r o) {ρ' : Nat → Nat} {v : Value} (h : TOk H ρ τ v) : TOk H ρ' τ v := by
  cases τ with
  | tp r o => exact absurd rfl (hn r o)
  | _ => exact h
/-- A store into a box. -/
theorem post_eu {i : TI} (hi : TiOk i) {r off : Nat} {t : TypeId} {ks ls : List Cel} {ag : Bool} {v : Value} {dst : Option Tmp} (hbx : Box H w (ρ r) t ks) (hn : H (ρ r) = none) (hv : VOk H ls ag v) (hl : ls.length = i.size) (ho : off + ls.length ≤ ks.length) (hW : HW H w) :
    ∃ w', (Instr.storeAt i.id (.pointer (some ⟨ρ r, off, none⟩)) v).run Try.prog w = .ok () w' ∧ Post H w ρ dst .ta (.eu r t (ks.take off ++ ls ++ ks.drop (off + ls.length))) undef H ρ w' := by
  obtain ⟨cs, hb, hc⟩ := hbx
  have e1 := hc.len
  have e2 := hv.cells.len
  have hst := run_store_ti hi hb hv hl (by rw [e1]; exact ho)
  have hB := setCells_Blk v.cells.toList w cs.toArray off hb (by simp only [List.size_toArray, e1, e2]; exact ho)
  have hO := setCells_only (g := ρ r) v.cells.toList w off
  refine ⟨_, hst, ⟨trivial, ?_, ⟨hO.os, hO.tape, hO.output, hO.size, Hp.Le.refl H, fun g x h e => (by rw [h] at e; cases e), fun g hg _ hX => hO.block g hg (fun e => hX (by injection e))⟩, rfl, _, hB, hc.put off hv.cells⟩⟩
  intro g t' m e
  obtain ⟨cs', h1, h2⟩ := hW g t' m e
  exact ⟨cs', (hO.block g (hW.lt e) (fun e2 => by injection e2 with e2; subst e2; rw [hn] at e; cases e)).trans h1, h2⟩
theorem join_tok {x y : Ty} {v : Value} (b : Bool) {u : Value} (hx : TOk H ρ x v) (hy : TOk H ρ y u) : TOk H ρ (x.join y) (if b then v else u) := by
  cases b
  · exact (TOk.join x y).2 hy
  · exact (TOk.join x y).1 hx
theorem put_same {ks ls ms : List Cel} {off : Nat} (h : lesC ls ms = true) (e : (ks.drop off).take ls.length = ms) : ks.take off ++ ms ++ ks.drop (off + ls.length) = ks := by
  subst e
  rw [← List.drop_drop, List.append_assoc, List.take_append_drop, List.take_append_drop]
set_option maxHeartbeats 1000000 in
theorem op_ok (hC : CxOk cx) {weak : Bool} {lk : Operand → Ty} {bx : Nat → Option (TypeId × List Cel)} {τ : Ty} {ef : Ef} (h : opT cx weak lk bx o.dst o.op = some (τ, ef)) (hv : ∀ x, TOk H ρ (lk x) (a.eval x))
    (hb : ∀ r t ks, bx r = some (t, ks) → Box H w (ρ r) t ks ∧ H (ρ r) = none) (hW : HW H w) (hK : ∀ v H' ρ' w', Post H w ρ o.dst τ ef v H' ρ' w' → EuOk bx weak ef → K (a.put o.dst v) w') : Oper.wp Try.prog o a w K Q := by
  have en : ∀ {v : Value} {τ' : Ty}, τ' = τ → Ef.en = ef → (execOp a.eval o).run Try.prog w = .ok (.value v) w → TOk H ρ τ' v → Oper.wp Try.prog o a w K Q := by
    rintro v _ rfl rfl hr ht
    exact wp_val hr (hK v H ρ w (post_en hW ht) (euok_en _ _))
  cases hop : o.op <;> rw [hop] at h <;> simp only [opT] at h <;> try (cases h; done)
  case move x =>
    injection h with h; injection h with h1 h2
    exact en h1 h2 (by simp [execOp, hop]) (hv x)
  case assign x =>
    injection h with h; injection h with h1 h2
    exact en h1 h2 (by simp [execOp, hop]) (hv x)
  case pick c x y =>
    have hc := hv c
    cases hl : lk c with
    | tv ks ag =>
      rw [hl] at h hc
      split at h
      · rename_i e; injection e with e1 e2; subst e1; subst e2
        injection h with h; injection h with h1 h2
        have hcv : a.eval c = .bool true := hc.1
        exact en h1 h2 (by simp [execOp, hop, hcv, asBool]) (hv x)
      · rename_i e; injection e with e1 e2; subst e1; subst e2
        injection h with h; injection h with h1 h2
        have hcv : a.eval c = .bool false := hc.1
        exact en h1 h2 (by simp [execOp, hop, hcv, asBool]) (hv y)
      · rename_i e; injection e with e1 e2; subst e1; subst e2
        injection h with h; injection h with h1 h2
        obtain ⟨b, hcv⟩ : ∃ b, a.eval c = .bool b := hc.1
        exact en h1 h2 (by simp [execOp, hop, hcv, asBool]) (join_tok b (hv x) (hv y))
      · cases h
    | _ => rw [hl] at h; simp at h
  case alloc t =>
    cases hd : o.dst with
    | none => rw [hd] at h; simp at h
    | some d =>
      rw [hd] at h
      cases hi : cx.ti t with
      | none => rw [hi] at h; simp at h
      | some i =>
        rw [hi] at h
        simp only at h
        injection h with h; injection h with h1 h2
        subst h1; subst h2
        obtain ⟨⟨info, z, e1, e2, e3, e4, e5, _⟩, rfl⟩ := Cx.ti_ok hC hi
        have e4' : CsOk H (if weak = true then i.std else i.zero) z.cells.toList := by
          cases weak
          · exact e4.none_
          · exact e4.none_.le e5
        rw [hd] at hK
        refine wp_val (w' := w.alloc (.cells z.cells.toList.toArray i.id)) (v := .pointer (some ⟨w.heap.size, 0, none⟩)) ?_ (by rw [hd]; exact hK _ _ _ _ (post_ew hW e4') (euok_ew _ _ _ _))
        simp [execOp, hop, Instr.alloc, zeroValue, typeInfo, e1, e3, newVar, newRow]
        try rfl
  case box t x =>
    cases hd : o.dst with
    | none => rw [hd] at h; simp at h
    | some d =>
      rw [hd] at h
      have hx := hv x
      cases hl : lk x with
      | tv ks ag =>
        rw [hl] at h hx
        simp only at h
        injection h with h; injection h with h1 h2
        subst h1; subst h2
        have hc : CsOk H ks (a.eval x).cells.toList := VOk.cells hx
        rw [hd] at hK
        refine wp_val (w' := w.alloc (.cells (a.eval x).cells.toList.toArray t)) (v := .pointer (some ⟨w.heap.size, 0, none⟩)) ?_ (by rw [hd]; exact hK _ _ _ _ (post_ew hW hc) (euok_ew _ _ _ _))
        simp [execOp, hop, Instr.box, newVar, newRow]
        try rfl
      | _ => rw [hl] at h; simp at h
  case build t parts =>
    cases hi : cx.ti t with
    | none => rw [hi] at h; simp at h
    | some i =>
      rw [hi] at h
      simp only at h
      split at h
      · rename_i hr
        simp only [Option.map_eq_some_iff] at h
        obtain ⟨ks, h1, h2⟩ := h
        injection h2 with h2 h3
        obtain ⟨hti, rfl⟩ := Cx.ti_ok hC hi
        obtain ⟨v, hrun, hvk⟩ := run_build (w := w) hti hr lk a.eval hv parts h1
        exact en h2 h3 (by simp only [execOp, hop, Sem.run_bind, hrun, Result.andThen_ok, Sem.run_pure]) hvk
      · cases h
  case buildSlice t len parts =>
    split at h
    · rename_i hc
      injection h with h; injection h with h1 h2
      subst h1; subst h2
      simp only [Bool.and_eq_true, decide_eq_true_eq, Bool.or_eq_true, beq_iff_eq] at hc
      obtain ⟨⟨h1, h2⟩, h3⟩ := hc
      have ht : t = slt (t == slt true) := by
        rcases h3 with rfl | rfl
        · rfl
        · rfl
      obtain ⟨v, H', w', hrun, k1, k2, k3⟩ := run_slit ht lk a.eval hv parts h1 h2 hW
      refine wp_val (v := v) (w' := w') (by simp only [execOp, hop, Sem.run_bind, hrun, Result.andThen_ok, Sem.run_pure]) (hK v H' ρ w' ⟨⟨k1, trivial⟩, k2, k3, rfl⟩ (euok_en _ _))
    · cases h
  case load t x =>
    have hx := hv x
    cases hi : cx.ti t with
    | none => rw [hi] at h; cases lk x <;> simp at h
    | some i =>
      rw [hi] at h
      obtain ⟨hti, rfl⟩ := Cx.ti_ok hC hi
      cases hl : lk x with
      | tp r p =>
        rw [hl] at h hx
        simp only at h
        cases hbx : bx r with
        | none => rw [hbx] at h; cases h
        | some q =>
          obtain ⟨bt, ks⟩ := q
          rw [hbx] at h
          simp only at h
          split at h
          · rename_i hs
            injection h with h; injection h with h1 h2
            obtain ⟨vs, hr, hc⟩ := box_range (hb r bt ks hbx).1 p i.size
            obtain ⟨v, hrun, hvk⟩ := run_load_ti hti hr hc (by simpa using hs)
            have hx' : a.eval x = .pointer (some ⟨ρ r, p, none⟩) := hx
            exact en h1 h2 (by simp only [execOp, hop, hx', Sem.run_bind, hrun, Result.andThen_ok, Sem.run_pure]) hvk
          · cases h
      | te got =>
        rw [hl] at h hx
        simp only at h
        split at h
        · rename_i ht
          injection h with h; injection h with h1 h2
          obtain ⟨g, p, m, hx', hg, hm⟩ := hx
          obtain ⟨cs, hbk, hcl, hca⟩ := hW g _ _ hg
          have hsz : i.size = esz got := by
            obtain ⟨info, _, e1, e2, _⟩ := hti
            obtain ⟨info', e3, _, e4, _⟩ := el_info got
            have hid : i.id = elt got := by simpa using ht
            rw [hid, e3] at e1
            obtain rfl := Option.some.inj e1
            rw [← e2, e4]
          have hr : w.rangeAt g p ((cs.drop p).take (esz got)) := Blk.range hbk p (n := esz got) (by simp)
          have hai : AllI ((cs.drop p).take (esz got)) := (hca.drop _).take _
          have hlen : ((cs.drop p).take (esz got)).length = esz got := by rw [List.length_take, List.length_drop]; omega
          have hc : CsOk H (if got = true then [.ci, .ci] else [.ci]) ((cs.drop p).take (esz got)) := by
            generalize (cs.drop p).take (esz got) = us at hai hlen
            cases got
            · match us, hlen with
              | [u], _ => exact ⟨hai u (by simp), trivial⟩
            · match us, hlen with
              | [u, u'], _ => exact ⟨hai u (by simp), hai u' (by simp), trivial⟩
          obtain ⟨v, hrun, hvk⟩ := run_load_ti hti hr hc (by rw [hsz]; cases got <;> rfl)
          exact en h1 h2 (by simp only [execOp, hop, hx', Sem.run_bind, hrun, Result.andThen_ok, Sem.run_pure]) hvk
        · cases h
      | _ => rw [hl] at h; simp at h
  case store t x y =>
    have hx := hv x
    have hy := hv y
    cases hi : cx.ti t with
    | none => rw [hi] at h; cases lk x <;> cases lk y <;> simp at h
    | some i =>
      rw [hi] at h
      obtain ⟨hti, rfl⟩ := Cx.ti_ok hC hi
      cases hl : lk x with
      | tp r p =>
        cases hm : lk y with
        | tv ls ag =>
          rw [hl] at h hx
          rw [hm] at h hy
          simp only at h
          cases hbx : bx r with
          | none => rw [hbx] at h; cases h
          | some q =>
            obtain ⟨bt, ks⟩ := q
            rw [hbx] at h
            simp only at h
            have hx' : a.eval x = .pointer (some ⟨ρ r, p, none⟩) := hx
            obtain ⟨hB, hN⟩ := hb r bt ks hbx
            split at h
            · rename_i hs
              simp at hs
              split at h
              · split at h
                · rename_i hle
                  injection h with h; injection h with h1 h2
                  subst h1; subst h2
                  have hy2 := VOk.le hle hy
                  have hlm : ((ks.drop p).take ls.length).length = ls.length := by rw [List.length_take, List.length_drop]; omega
                  obtain ⟨w', hrun, hp⟩ := post_eu (dst := o.dst) (off := p) hti hB hN hy2 (by rw [hlm]; exact hs.1) (by rw [hlm]; exact hs.2) hW
                  rw [hlm, put_same hle rfl] at hp
                  exact wp_non (v := undef) (by simp only [execOp, hop, hx', Sem.run_bind, hrun, Result.andThen_ok, Sem.run_pure]) (hK _ _ _ _ hp (fun r' t' ks' e => by injection e with e1 e2 e3; subst e1; subst e2; subst e3; exact ⟨_, hbx, fun _ => rfl⟩))
                · cases h
              · injection h with h; injection h with h1 h2
                subst h1; subst h2
                obtain ⟨w', hrun, hp⟩ := post_eu (dst := o.dst) (off := p) hti hB hN hy hs.1 hs.2 hW
                exact wp_non (v := undef) (by simp only [execOp, hop, hx', Sem.run_bind, hrun, Result.andThen_ok, Sem.run_pure]) (hK _ _ _ _ hp (fun r' t' ks' e => by injection e with e1 e2 e3; subst e1; exact ⟨_, hbx, fun e => absurd e (by assumption)⟩))
            · cases h
        | _ => rw [hl, hm] at h; simp at h
      | _ => rw [hl] at h; simp at h
  case fieldAddr t x f =>
    have hx := hv x
    cases hi : cx.ti t with
    | none => rw [hi] at h; cases lk x <;> simp at h
    | some i =>
      rw [hi] at h
      obtain ⟨hti, rfl⟩ := Cx.ti_ok hC hi
      cases hl : lk x with
      | tp r p =>
        rw [hl] at h hx
        simp only at h
        split at h
        · rename_i hr
          cases hf : i.fl[f]? with
          | none => rw [hf] at h; cases h
          | some q =>
            obtain ⟨off, sz⟩ := q
            rw [hf] at h
            simp only at h
            injection h with h; injection h with h1 h2
            have hx' : a.eval x = .pointer (some ⟨ρ r, p, none⟩) := hx
            exact en h1 h2 (by simp only [execOp, hop, hx', Sem.run_bind, run_field hti hr hf, Result.andThen_ok, Sem.run_pure]) rfl
        · cases h
      | _ => rw [hl] at h; simp at h
  case indexAddr t x ix =>
    have hx := hv x
    have hi := hv ix
    split at h
    · rename_i e1 e2
      rw [e1] at hx
      rw [e2] at hi
      split at h
      · rename_i hc
        simp at hc
        obtain ⟨⟨⟨h1, h2⟩, rfl⟩, rfl⟩ := hc
        injection h with h; injection h with h3 h4
        obtain ⟨z, hz, hz1, hz2⟩ := hi.1
        obtain rfl : z = 0 := by omega
        obtain ⟨u, hrun, hu⟩ := run_idx (ρ := ρ) (w := w) h1 h2 hx.1 hW
        exact en h3 h4 (by simp only [execOp, hop, hz, Sem.run_bind, hrun, Result.andThen_ok, Sem.run_pure]) hu
      · cases h
    · cases h
  case slice t x lo hi mx =>
    cases lo with
    | none => simp at h
    | some low =>
    cases hi with
    | some _ => simp at h
    | none =>
    cases mx with
    | some _ => simp at h
    | none =>
    have hx := hv x
    have hi := hv low
    simp only at h
    split at h
    · rename_i e1 e2
      rw [e1] at hx
      rw [e2] at hi
      split at h
      · rename_i hc
        simp at hc
        obtain ⟨⟨⟨h1, h2⟩, rfl⟩, rfl⟩ := hc
        injection h with h; injection h with h3 h4
        obtain ⟨z, hz, hz1, hz2⟩ := hi.1
        obtain rfl : z = 1 := by omega
        obtain ⟨u, hrun, hu⟩ := run_sl1 (w := w) h1 h2 hx.1 hW
        exact en h3 h4 (by simp only [execOp, hop, Option.map_some, Option.map_none, hz, Sem.run_bind, hrun, Result.andThen_ok, Sem.run_pure]) ⟨hu, trivial⟩
      · cases h
    · cases h
  case extract x n =>
    have hx := hv x
    cases hl : lk x with
    | tt ts =>
      rw [hl] at h hx
      simp only at h
      cases ht : ts[n]? with
      | none => rw [ht] at h; cases h
      | some q =>
        obtain ⟨ks, ag⟩ := q
        rw [ht] at h
        simp only at h
        injection h with h; injection h with h1 h2
        obtain ⟨vs, hx', hts⟩ := hx
        obtain ⟨u, hu, huk⟩ := hts.at_ n ht
        exact en h1 h2 (by simp [execOp, hop, hx', Instr.extract, hu]) huk
    | _ => rw [hl] at h; simp at h
  case binOp op t x y u =>
    have hx := hv x
    have hy := hv y
    split at h
    · rename_i e1 e2
      rw [e1] at hx
      rw [e2] at hy
      split at h
      · rename_i p q hp hq
        simp only [Option.map_eq_some_iff] at h
        obtain ⟨k, h1, h2⟩ := h
        injection h2 with h2 h3
        obtain ⟨zx, ex, bx'⟩ := int_of hp hx.1
        obtain ⟨zy, ey, by'⟩ := int_of hq hy.1
        obtain ⟨v, hrun, hvk⟩ := run_bin (H := H) h1 bx' by' t x y w
        exact en h2 h3 (by simp only [execOp, hop, ex, ey]; rw [Sem.run_bind, hrun]; rfl) ⟨hvk, trivial⟩
      · cases h
    · cases h
  case unOp op t x =>
    cases op <;> simp only at h <;> try (cases h; done)
    have hx := hv x
    split at h
    · rename_i e1
      rw [e1] at hx
      injection h with h; injection h with h1 h2
      obtain ⟨b, hxb⟩ : ∃ b, a.eval x = .bool b := hx.1
      exact en h1 h2 (by simp [execOp, hop, hxb, Op.unary]) ⟨⟨!b, rfl⟩, trivial⟩
    · rename_i b e1
      rw [e1] at hx
      injection h with h; injection h with h1 h2
      have hxb : a.eval x = .bool b := hx.1
      exact en h1 h2 (by simp [execOp, hop, hxb, Op.unary]) ⟨rfl, trivial⟩
    · cases h
  case call c =>
    obtain ⟨cal, args, ats⟩ := c
    simp only at h
    cases cal with
    | value f =>
      cases f with
      | func f =>
        simp only at h
        cases ha : argS (args.toList.map lk) with
        | none => rw [ha] at h; cases h
        | some ts =>
          rw [ha] at h
          simp only [Option.map_eq_some_iff] at h
          obtain ⟨τ', h1, h2⟩ := h
          injection h2 with h2 h3
          subst h2; subst h3
          obtain ⟨us, hm, hle⟩ := fit_ok h1
          obtain ⟨⟨⟨fn, e1, e2, e3⟩, hcon⟩, hnp⟩ := hC.env _ hm
          have hts := (argS_ok lk a.eval hv args.toList ts ha).le hle
          have hcall := hcon H w _ hW hts
          unfold Oper.wp
          have hrun : (execOp a.eval o).run Try.prog w = .ok (.enter f (args.toList.map a.eval).toArray) w := by
            simp only at e1 e2 e3
            simp only [execOp, hop, resolve, Act.eval, Deferred.ofValue, invoke, callFunc, Sem.run_bind, Sem.run_pure, Result.andThen_ok, run_program, Array.empty_append, Array.append_empty, e1, e2, e3]
            simp
            exact Array.ext' (by simp)
          rw [hrun, Oper.upon_enter]
          refine hcall.mono ?_
          rintro e w' ⟨v, H', rfl, hv', hW', hfr⟩
          exact hK v H' ρ w' ⟨hv'.rho hnp, hW', hfr, rfl⟩ (euok_en _ _)
      | _ => simp at h
    | invoke _ _ => simp at h
    | builtin b =>
      cases b <;> simp only at h <;> try (cases h; done)
      case len =>
        split at h
        · rename_i x t e1 e2
          have hx := hv x
          split at h
          · rename_i e3
            rw [e3] at hx
            split at h
            · rename_i ht
              injection h with h; injection h with h1 h2
              obtain ⟨u, hrun, hu⟩ := run_len (w := w) (by simpa using ht) o.type hx.1
              have ea : args = #[x] := by rw [← Array.toArray_toList (xs := args), e1]
              have et : ats = #[t] := by rw [← Array.toArray_toList (xs := ats), e2]
              subst ea; subst et
              refine en h1 h2 ?_ ⟨hu, trivial⟩
              simp only [execOp, hop, resolve, invoke, builtin, Sem.run_bind, Sem.run_pure, Result.andThen_ok, List.map_toArray, List.map_cons, List.map_nil]
              rw [hrun]
              rfl
            · cases h
          · cases h
        · cases h
      case min =>
        split at h
        · rename_i x y e1
          have hx := hv x
          have hy := hv y
          split at h
          · rename_i c d e3 e4
            rw [e3] at hx
            rw [e4] at hy
            split at h
            · rename_i ht
              simp only [Bool.and_eq_true] at ht
              injection h with h; injection h with h1 h2
              obtain ⟨p, hp⟩ := Option.isSome_iff_exists.1 ht.1
              obtain ⟨q, hq⟩ := Option.isSome_iff_exists.1 ht.2
              obtain ⟨zx, ex, _⟩ := int_of hp hx.1
              obtain ⟨zy, ey, _⟩ := int_of hq hy.1
              have ea : args = #[x, y] := by rw [← Array.toArray_toList (xs := args), e1]
              subst ea
              refine en h1 h2 (v := .int .i64 (if zy < zx then zy else zx)) ?_ ⟨⟨_, rfl⟩, trivial⟩
              simp [execOp, hop, resolve, invoke, builtin, ex, ey, Builtin.min_, Builtin.min2]
            · cases h
          · cases h
        · cases h
      case append =>
        split at h
        · rename_i x y t u e1 e2
          have hx := hv x
          have hy := hv y
          split at h
          · rename_i e3 e4
            rw [e3] at hx
            rw [e4] at hy
            split at h
            · rename_i ht
              simp at ht
              obtain ⟨⟨⟨hg1, hg2⟩, hg3⟩, hg4⟩ := ht
              subst hg1; subst hg2; subst hg3
              injection h with h; injection h with h1 h2
              subst h1; subst h2
              obtain ⟨v, H', w', hrun, hu, hW', hfr⟩ := run_appT (w := w) o.type hg4 hx.1 hy.1 hW
              have ea : args = #[x, y] := by rw [← Array.toArray_toList (xs := args), e1]
              have et : ats = ats.toList.toArray := (Array.toArray_toList).symm
              rw [e2] at et
              subst ea; subst et
              refine wp_val (v := v) (w' := w') ?_ (hK v H' ρ w' ⟨⟨hu, trivial⟩, hW', hfr, rfl⟩ (euok_en _ _))
              simp only [execOp, hop, resolve, invoke, builtin, Sem.run_bind, Sem.run_pure, Result.andThen_ok, List.map_toArray, List.map_cons, List.map_nil]
              rw [hrun]
              rfl
            · cases h
          · cases h
        · cases h
end
end Go.Proofs.Ytdnjdbafffifeaa
