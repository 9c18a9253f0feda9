/-
  A CHECKER OF SHAPES for functions that pass structs by value: what a slot, a cell and a list hold (an int and its range, a bool, a list of ints or of Got with a range for its length). Here: the words, and what they mean in a world. No function in sight.
-/
import Derived.Test.YtdnjdbafffifeaaAppend
import Derived.Test.YtdnjdbafffifeaaGot
import Derived.Deep.MidRow
set_option linter.unusedVariables false
set_option linter.unusedSimpArgs false
namespace Go.Proofs.Ytdnjdbafffifeaa
open Go.ChangeShapes Go.WideShapes Go.ChangeAt Go.RowKit

/-- What one cell holds: an int, an int of a range, a bool, a known bool, a list (of Got?, whose block is its own?) with a range for its length. -/
inductive Cel where
  | ci
  | cr (a b : Int)
  | cb
  | ck (x : Bool)
  | cl (got own : Bool) (lo hi : Nat)
/-- What a slot holds: a value of cells (a struct?), a pointer into box r at place o, a pointer to an element of a list, a tuple, anything. -/
inductive Ty where
  | tv (ks : List Cel) (ag : Bool)
  | tp (r o : Nat)
  | te (got : Bool)
  | tt (ts : List (List Cel × Bool))
  | ta
/-- What an operation does to the boxes. -/
inductive Ef where
  | en
  | ew (t : TypeId) (ks : List Cel)
  | eu (r : Nat) (t : TypeId) (ks : List Cel)
/-- The shapes at one place of the code: the slots', the boxes'. -/
structure St where
  G : List Ty
  D : List (Nat × TypeId × List Cel)

def Cel.le : Cel → Cel → Bool
  | .ci, .ci => true
  | .cr _ _, .ci => true
  | .cr a b, .cr c d => decide (c ≤ a) && decide (b ≤ d)
  | .cb, .cb => true
  | .ck _, .cb => true
  | .ck x, .ck y => x == y
  | .cl g o lo hi, .cl g' o' lo' hi' => g == g' && o == o' && decide (lo' ≤ lo) && decide (hi ≤ hi')
  | _, _ => false
def lesC : List Cel → List Cel → Bool
  | [], [] => true
  | x :: xs, y :: ys => x.le y && lesC xs ys
  | _, _ => false
def Cel.join (x y : Cel) : Option Cel :=
  if x.le y then some y else if y.le x then some x else
  match x, y with
  | .cr a b, .cr c d => some (.cr (min a c) (max b d))
  | .ck _, .ck _ => some .cb
  | .cl g o lo hi, .cl g' o' lo' hi' => if g == g' && o == o' then some (.cl g o (min lo lo') (max hi hi')) else none
  | _, _ => none
def joinsC : List Cel → List Cel → Option (List Cel)
  | [], [] => some []
  | x :: xs, y :: ys => (x.join y).bind fun z => (joinsC xs ys).map (z :: ·)
  | _, _ => none
def joinsS : List (List Cel × Bool) → List (List Cel × Bool) → Option (List (List Cel × Bool))
  | [], [] => some []
  | x :: xs, y :: ys => if x.2 == y.2 then (joinsC x.1 y.1).bind fun z => (joinsS xs ys).map ((z, x.2) :: ·) else none
  | _, _ => none
def Ty.join : Ty → Ty → Ty
  | .tv xs a, .tv ys b => if a == b then (match joinsC xs ys with | some zs => .tv zs a | none => .ta) else .ta
  | .tp r o, .tp r' o' => if r == r' && o == o' then .tp r o else .ta
  | .te g, .te g' => if g == g' then .te g else .ta
  | .tt xs, .tt ys => match joinsS xs ys with | some zs => .tt zs | none => .ta
  | _, _ => .ta
def lesS : List (List Cel × Bool) → List (List Cel × Bool) → Bool
  | [], [] => true
  | x :: xs, y :: ys => x.2 == y.2 && lesC x.1 y.1 && lesS xs ys
  | _, _ => false
def Ty.le : Ty → Ty → Bool
  | .tv xs a, .tv ys b => a == b && lesC xs ys
  | .tt xs, .tt ys => lesS xs ys
  | _, .ta => true
  | _, _ => false

/-! ### What they mean -/
def elt (got : Bool) : TypeId := if got then 64 else 3
def esz (got : Bool) : Nat := if got then 2 else 1
/-- The blocks of lists: their elements' type and how many cells they have. -/
def Hp := Nat → Option (TypeId × Nat)
def Hp.Le (H H' : Hp) : Prop := ∀ g x, H g = some x → H' g = some x
def Lies (H : Hp) (got own : Bool) (A : Option Addr) (n c : Nat) : Prop :=
  (own = true ∧ ((A = none ∧ n = 0 ∧ c = 0) ∨ ∃ g, A = some ⟨g, 0, none⟩ ∧ H g = some (elt got, c * esz got))) ∨
  (own = false ∧ (n = 0 ∨ ∃ g o m, A = some ⟨g, o, none⟩ ∧ H g = some (elt got, m) ∧ o + n * esz got ≤ m))
def COk (H : Hp) : Cel → Value → Prop
  | .ci, v => ∃ z, v = .int .i64 z
  | .cr a b, v => ∃ z, v = .int .i64 z ∧ a ≤ z ∧ z ≤ b
  | .cb, v => ∃ z, v = .bool z
  | .ck x, v => v = .bool x
  | .cl got own lo hi, v => ∃ A n c, v = .slice A n c ∧ lo ≤ n ∧ n ≤ hi ∧ n ≤ c ∧ c ≤ maxLen ∧ Lies H got own A n c
def CsOk (H : Hp) : List Cel → List Value → Prop
  | [], [] => True
  | k :: ks, v :: vs => COk H k v ∧ CsOk H ks vs
  | _, _ => False
def VOk (H : Hp) (ks : List Cel) : Bool → Value → Prop
  | true, v => ∃ vs : List Value, v = .agg vs.toArray ∧ CsOk H ks vs
  | false, v => CsOk H ks [v]
def TsOk (H : Hp) : List (List Cel × Bool) → List Value → Prop
  | [], [] => True
  | k :: ks, v :: vs => VOk H k.1 k.2 v ∧ TsOk H ks vs
  | _, _ => False
def TOk (H : Hp) (ρ : Nat → Nat) : Ty → Value → Prop
  | .tv ks ag, v => VOk H ks ag v
  | .tp r o, v => v = .pointer (some ⟨ρ r, o, none⟩)
  | .te got, v => ∃ g o m, v = .pointer (some ⟨g, o, none⟩) ∧ H g = some (elt got, m) ∧ o + esz got ≤ m
  | .tt ts, v => ∃ vs : List Value, v = .tuple vs.toArray ∧ TsOk H ts vs
  | .ta, _ => True
/-- All cells are ints. -/
def AllI (vs : List Value) : Prop := ∀ v ∈ vs, ∃ z, v = .int .i64 z
/-- The lists' blocks are as they should be. -/
def HW (H : Hp) (w : World) : Prop := ∀ g t m, H g = some (t, m) → ∃ cs : List Value, w.heap[g]? = some (.cells cs.toArray t (0, 0)) ∧ cs.length = m ∧ AllI cs
def Box (H : Hp) (w : World) (g : Nat) (t : TypeId) (ks : List Cel) : Prop := ∃ cs : List Value, w.heap[g]? = some (.cells cs.toArray t (0, 0)) ∧ CsOk H ks cs
/-- Only lists' blocks have turned (and those for which X holds); what is new is new. -/
structure FrX (X : Nat → Prop) (H : Hp) (w : World) (H' : Hp) (w' : World) : Prop where
  os : w'.os = w.os
  tape : w'.tape = w.tape
  output : w'.output = w.output
  size : w.heap.size ≤ w'.heap.size
  le : H.Le H'
  new : ∀ g x, H' g = some x → H g = none → w.heap.size ≤ g
  old : ∀ g, g < w.heap.size → H g = none → ¬ X g → w'.heap[g]? = w.heap[g]?
abbrev Fr (H : Hp) (w : World) (H' : Hp) (w' : World) : Prop := FrX (fun _ => False) H w H' w'

section
variable {H H' : Hp} {w w' : World}
theorem Hp.Le.refl (H : Hp) : H.Le H := fun _ _ h => h
theorem Hp.Le.trans {H'' : Hp} (h : H.Le H') (h' : H'.Le H'') : H.Le H'' := fun g x e => h' g x (h g x e)
theorem Lies.up {got own : Bool} {A : Option Addr} {n c : Nat} (hl : H.Le H') (h : Lies H got own A n c) : Lies H' got own A n c := by
  rcases h with ⟨h0, h⟩ | ⟨h0, h⟩
  · rcases h with h | ⟨g, e, h⟩
    · exact .inl ⟨h0, .inl h⟩
    · exact .inl ⟨h0, .inr ⟨g, e, hl _ _ h⟩⟩
  · rcases h with h | ⟨g, o, m, e, h, h2⟩
    · exact .inr ⟨h0, .inl h⟩
    · exact .inr ⟨h0, .inr ⟨g, o, m, e, hl _ _ h, h2⟩⟩
theorem COk.up (hl : H.Le H') {k : Cel} {v : Value} (h : COk H k v) : COk H' k v := by
  cases k with
  | cl got own lo hi => obtain ⟨A, n, c, e, h1, h2, h3, h4, h5⟩ := h; exact ⟨A, n, c, e, h1, h2, h3, h4, h5.up hl⟩
  | _ => exact h
theorem CsOk.up (hl : H.Le H') : ∀ {ks : List Cel} {vs : List Value}, CsOk H ks vs → CsOk H' ks vs
  | [], [], _ => trivial
  | _ :: _, _ :: _, h => ⟨h.1.up hl, CsOk.up hl h.2⟩
theorem VOk.up (hl : H.Le H') {ks : List Cel} {ag : Bool} {v : Value} (h : VOk H ks ag v) : VOk H' ks ag v := by
  cases ag with
  | true => obtain ⟨vs, e, h⟩ := h; exact ⟨vs, e, h.up hl⟩
  | false => exact CsOk.up hl h
theorem TsOk.up (hl : H.Le H') : ∀ {ks : List (List Cel × Bool)} {vs : List Value}, TsOk H ks vs → TsOk H' ks vs
  | [], [], _ => trivial
  | _ :: _, _ :: _, h => ⟨h.1.up hl, TsOk.up hl h.2⟩
theorem TOk.up {ρ : Nat → Nat} (hl : H.Le H') {t : Ty} {v : Value} (h : TOk H ρ t v) : TOk H' ρ t v := by
  cases t with
  | tv ks ag => exact VOk.up hl h
  | tp r o => exact h
  | te got => obtain ⟨g, o, m, e, h1, h2⟩ := h; exact ⟨g, o, m, e, hl _ _ h1, h2⟩
  | tt ts => obtain ⟨vs, e, h⟩ := h; exact ⟨vs, e, h.up hl⟩
  | ta => trivial
theorem CsOk.len : ∀ {ks : List Cel} {vs : List Value}, CsOk H ks vs → vs.length = ks.length
  | [], [], _ => rfl
  | _ :: _, _ :: _, h => by simp [h.2.len]
theorem TsOk.len : ∀ {ks : List (List Cel × Bool)} {vs : List Value}, TsOk H ks vs → vs.length = ks.length
  | [], [], _ => rfl
  | _ :: _, _ :: _, h => by simp [h.2.len]
theorem CsOk.drop : ∀ {ks : List Cel} {vs : List Value} (o : Nat), CsOk H ks vs → CsOk H (ks.drop o) (vs.drop o)
  | _, _, 0, h => by simpa using h
  | [], [], _ + 1, _ => trivial
  | _ :: _, _ :: _, o + 1, h => by simpa using CsOk.drop o h.2
theorem CsOk.take : ∀ {ks : List Cel} {vs : List Value} (o : Nat), CsOk H ks vs → CsOk H (ks.take o) (vs.take o)
  | _, _, 0, _ => by simp [CsOk]
  | [], [], _ + 1, _ => by simp [CsOk]
  | _ :: _, _ :: _, o + 1, h => by simpa [CsOk] using ⟨h.1, CsOk.take o h.2⟩
theorem CsOk.app : ∀ {ks ls : List Cel} {vs us : List Value}, CsOk H ks vs → CsOk H ls us → CsOk H (ks ++ ls) (vs ++ us)
  | [], _, [], _, _, h => h
  | _ :: _, _, _ :: _, _, h, h' => ⟨h.1, CsOk.app h.2 h'⟩
theorem CsOk.at_ : ∀ {ks : List Cel} {vs : List Value} (i : Nat) {k : Cel}, CsOk H ks vs → ks[i]? = some k → ∃ v, vs[i]? = some v ∧ COk H k v
  | [], [], _, _, _, h => by simp at h
  | _ :: _, v :: _, 0, _, h, e => by simp at e; subst e; exact ⟨v, rfl, h.1⟩
  | _ :: _, _ :: _, i + 1, _, h, e => by simpa using CsOk.at_ i h.2 (by simpa using e)
theorem TsOk.at_ : ∀ {ks : List (List Cel × Bool)} {vs : List Value} (i : Nat) {k : List Cel × Bool}, TsOk H ks vs → ks[i]? = some k → ∃ v, vs[i]? = some v ∧ VOk H k.1 k.2 v
  | [], [], _, _, _, h => by simp at h
  | _ :: _, v :: _, 0, _, h, e => by simp at e; subst e; exact ⟨v, rfl, h.1⟩
  | _ :: _, _ :: _, i + 1, _, h, e => by simpa using TsOk.at_ i h.2 (by simpa using e)
theorem COk.le {x y : Cel} (hl : x.le y = true) {v : Value} (h : COk H x v) : COk H y v := by
  cases x <;> cases y <;> simp [Cel.le] at hl
  case ci.ci => exact h
  case cr.ci => obtain ⟨z, e, _⟩ := h; exact ⟨z, e⟩
  case cr.cr => obtain ⟨z, e, h1, h2⟩ := h; exact ⟨z, e, by omega, by omega⟩
  case cb.cb => exact h
  case ck.cb => exact ⟨_, h⟩
  case ck.ck => subst hl; exact h
  case cl.cl =>
    obtain ⟨⟨⟨rfl, rfl⟩, h1⟩, h2⟩ := hl
    obtain ⟨A, n, c, e, k1, k2, k3, k4, k5⟩ := h
    exact ⟨A, n, c, e, by omega, by omega, k3, k4, k5⟩
theorem CsOk.le : ∀ {xs ys : List Cel} {vs : List Value}, lesC xs ys = true → CsOk H xs vs → CsOk H ys vs
  | [], [], [], _, _ => trivial
  | x :: xs, y :: ys, v :: vs, hl, h => by
    simp only [lesC, Bool.and_eq_true] at hl
    exact ⟨h.1.le hl.1, h.2.le hl.2⟩
theorem VOk.le {xs ys : List Cel} {ag : Bool} {v : Value} (hl : lesC xs ys = true) (h : VOk H xs ag v) : VOk H ys ag v := by
  cases ag with
  | true => obtain ⟨vs, e, h⟩ := h; exact ⟨vs, e, h.le hl⟩
  | false => exact CsOk.le hl h
theorem TsOk.le : ∀ {xs ys : List (List Cel × Bool)} {vs : List Value}, lesS xs ys = true → TsOk H xs vs → TsOk H ys vs
  | [], [], [], _, _ => trivial
  | x :: xs, y :: ys, v :: vs, hl, h => by
    simp only [lesS, Bool.and_eq_true, beq_iff_eq] at hl
    exact ⟨by have := h.1.le hl.1.2; rwa [hl.1.1] at this, h.2.le hl.2⟩
theorem TOk.le {ρ : Nat → Nat} {x y : Ty} (hl : x.le y = true) {v : Value} (h : TOk H ρ x v) : TOk H ρ y v := by
  cases y with
  | ta => trivial
  | tv ys b => cases x <;> simp [Ty.le] at hl; obtain ⟨rfl, hl⟩ := hl; exact VOk.le hl h
  | tt ts => cases x <;> simp [Ty.le] at hl; obtain ⟨vs, e, h⟩ := h; exact ⟨vs, e, h.le hl⟩
  | tp r o => cases x <;> simp [Ty.le] at hl
  | te g => cases x <;> simp [Ty.le] at hl
theorem COk.join {x y z : Cel} (hj : x.join y = some z) {v : Value} : (COk H x v → COk H z v) ∧ (COk H y v → COk H z v) := by
  unfold Cel.join at hj
  by_cases h1 : x.le y = true
  · rw [if_pos h1] at hj; injection hj with hj; subst hj; exact ⟨COk.le h1, id⟩
  rw [if_neg h1] at hj
  by_cases h2 : y.le x = true
  · rw [if_pos h2] at hj; injection hj with hj; subst hj; exact ⟨id, COk.le h2⟩
  rw [if_neg h2] at hj
  cases x <;> cases y <;> simp at hj
  case cr.cr =>
    subst hj
    exact ⟨fun ⟨z, e, h1, h2⟩ => ⟨z, e, by omega, by omega⟩, fun ⟨z, e, h1, h2⟩ => ⟨z, e, by omega, by omega⟩⟩
  case ck.ck => subst hj; exact ⟨fun h => ⟨_, h⟩, fun h => ⟨_, h⟩⟩
  case cl.cl =>
    obtain ⟨⟨rfl, rfl⟩, rfl⟩ := hj
    exact ⟨fun ⟨A, n, c, e, k1, k2, k3, k4, k5⟩ => ⟨A, n, c, e, by omega, by omega, k3, k4, k5⟩, fun ⟨A, n, c, e, k1, k2, k3, k4, k5⟩ => ⟨A, n, c, e, by omega, by omega, k3, k4, k5⟩⟩
theorem CsOk.join : ∀ {xs ys zs : List Cel} {vs : List Value}, joinsC xs ys = some zs → (CsOk H xs vs → CsOk H zs vs) ∧ (CsOk H ys vs → CsOk H zs vs)
  | [], [], zs, vs, hj => by simp [joinsC] at hj; subst hj; exact ⟨id, id⟩
  | [], _ :: _, zs, vs, hj => by simp [joinsC] at hj
  | _ :: _, [], zs, vs, hj => by simp [joinsC] at hj
  | x :: xs, y :: ys, zs, vs, hj => by
    simp only [joinsC, Option.bind_eq_some_iff, Option.map_eq_some_iff] at hj
    obtain ⟨z, hz, zs', hzs, rfl⟩ := hj
    cases vs with
    | nil => exact ⟨fun h => h.elim, fun h => h.elim⟩
    | cons v vs => exact ⟨fun h => ⟨(COk.join hz).1 h.1, (CsOk.join hzs).1 h.2⟩, fun h => ⟨(COk.join hz).2 h.1, (CsOk.join hzs).2 h.2⟩⟩
theorem VOk.join {xs ys zs : List Cel} {ag : Bool} {v : Value} (hj : joinsC xs ys = some zs) : (VOk H xs ag v → VOk H zs ag v) ∧ (VOk H ys ag v → VOk H zs ag v) := by
  cases ag with
  | true => exact ⟨fun ⟨vs, e, h⟩ => ⟨vs, e, (CsOk.join hj).1 h⟩, fun ⟨vs, e, h⟩ => ⟨vs, e, (CsOk.join hj).2 h⟩⟩
  | false => exact CsOk.join hj
theorem TsOk.join : ∀ {xs ys zs : List (List Cel × Bool)} {vs : List Value}, joinsS xs ys = some zs → (TsOk H xs vs → TsOk H zs vs) ∧ (TsOk H ys vs → TsOk H zs vs)
  | [], [], zs, vs, hj => by simp [joinsS] at hj; subst hj; exact ⟨id, id⟩
  | [], _ :: _, zs, vs, hj => by simp [joinsS] at hj
  | _ :: _, [], zs, vs, hj => by simp [joinsS] at hj
  | x :: xs, y :: ys, zs, vs, hj => by
    simp only [joinsS] at hj
    by_cases hb : (x.2 == y.2) = true
    · rw [if_pos hb] at hj
      simp only [Option.bind_eq_some_iff, Option.map_eq_some_iff] at hj
      obtain ⟨z, hz, zs', hzs, rfl⟩ := hj
      have hb' : x.2 = y.2 := by simpa using hb
      cases vs with
      | nil => exact ⟨fun h => h.elim, fun h => h.elim⟩
      | cons v vs => exact ⟨fun h => ⟨(VOk.join hz).1 h.1, (TsOk.join hzs).1 h.2⟩, fun h => ⟨(VOk.join hz).2 (by rw [hb']; exact h.1), (TsOk.join hzs).2 h.2⟩⟩
    · rw [if_neg hb] at hj; cases hj
theorem TOk.join {ρ : Nat → Nat} (x y : Ty) {v : Value} : (TOk H ρ x v → TOk H ρ (x.join y) v) ∧ (TOk H ρ y v → TOk H ρ (x.join y) v) := by
  cases x <;> cases y <;> simp only [Ty.join] <;> try exact ⟨fun _ => trivial, fun _ => trivial⟩
  case tv.tv xs a ys b =>
    by_cases hb : (a == b) = true
    · rw [if_pos hb]
      obtain rfl : a = b := by simpa using hb
      cases hj : joinsC xs ys with
      | none => exact ⟨fun _ => trivial, fun _ => trivial⟩
      | some zs => exact VOk.join hj
    · rw [if_neg hb]; exact ⟨fun _ => trivial, fun _ => trivial⟩
  case tp.tp r o r' o' =>
    by_cases hb : (r == r' && o == o') = true
    · rw [if_pos hb]
      simp at hb
      obtain ⟨rfl, rfl⟩ := hb
      exact ⟨id, id⟩
    · rw [if_neg hb]; exact ⟨fun _ => trivial, fun _ => trivial⟩
  case te.te g g' =>
    by_cases hb : (g == g') = true
    · rw [if_pos hb]
      obtain rfl : g = g' := by simpa using hb
      exact ⟨id, id⟩
    · rw [if_neg hb]; exact ⟨fun _ => trivial, fun _ => trivial⟩
  case tt.tt xs ys =>
    cases hj : joinsS xs ys with
    | none => exact ⟨fun _ => trivial, fun _ => trivial⟩
    | some zs => exact ⟨fun ⟨vs, e, h⟩ => ⟨vs, e, (TsOk.join hj).1 h⟩, fun ⟨vs, e, h⟩ => ⟨vs, e, (TsOk.join hj).2 h⟩⟩
theorem COk.one {k : Cel} {v : Value} (h : COk H k v) : v.oneCell' = true := by
  cases k with
  | ci => obtain ⟨z, rfl⟩ := h; rfl
  | cr a b => obtain ⟨z, rfl, _⟩ := h; rfl
  | cb => obtain ⟨z, rfl⟩ := h; rfl
  | ck x => cases h; rfl
  | cl _ _ _ _ => obtain ⟨A, n, c, rfl, _⟩ := h; rfl
theorem CsOk.one : ∀ {ks : List Cel} {vs : List Value}, CsOk H ks vs → ∀ v ∈ vs, v.oneCell' = true
  | [], [], _, _, h => by cases h
  | _ :: _, _ :: _, h, v, hv => by
    rcases List.mem_cons.1 hv with rfl | hv
    · exact h.1.one
    · exact CsOk.one h.2 v hv
theorem cells_one {v : Value} (h : v.oneCell' = true) : v.cells = #[v] := by cases v <;> simp_all [Value.cells, Value.oneCell']
/-- The cells of a value. -/
theorem VOk.cells {ks : List Cel} {ag : Bool} {v : Value} (h : VOk H ks ag v) : CsOk H ks v.cells.toList := by
  cases ag with
  | true => obtain ⟨vs, rfl, h⟩ := h; simpa [Value.cells] using h
  | false =>
    have h' : CsOk H ks [v] := h
    rw [cells_one (CsOk.one h' v (List.mem_singleton.2 rfl))]
    exact h'
/-- A part is replaced. -/
theorem CsOk.put {ks ls : List Cel} {vs us : List Value} (o : Nat) (h : CsOk H ks vs) (h' : CsOk H ls us) : CsOk H (ks.take o ++ ls ++ ks.drop (o + ls.length)) (vs.take o ++ us ++ vs.drop (o + us.length)) := by
  rw [h'.len]
  exact ((h.take o).app h').app (h.drop _)
/-! #### Frames -/
theorem Fr.refl (H : Hp) (w : World) : Fr H w H w := ⟨rfl, rfl, rfl, Nat.le_refl _, Hp.Le.refl H, fun g x h e => (by rw [h] at e; cases e), fun _ _ _ _ => rfl⟩
theorem FrX.trans {X : Nat → Prop} {H'' : Hp} {w'' : World} (h : FrX X H w H' w') (h' : Fr H' w' H'' w'') : FrX X H w H'' w'' := by
  refine ⟨h'.os.trans h.os, h'.tape.trans h.tape, h'.output.trans h.output, Nat.le_trans h.size h'.size, h.le.trans h'.le, fun g x e e0 => ?_, fun g hg e0 hX => ?_⟩
  · cases e1 : H' g with
    | none => exact Nat.le_trans h.size (h'.new g x e e1)
    | some y => exact h.new g y e1 e0
  · have e1 : H' g = none := by
      cases e1 : H' g with
      | none => rfl
      | some y => have := h.new g y e1 e0; omega
    exact (h'.old g (Nat.lt_of_lt_of_le hg h.size) e1 (fun x => x)).trans (h.old g hg e0 hX)
/-- Boxes of the callee's own are past the frame. -/
theorem Fr.transX {X : Nat → Prop} {H'' : Hp} {w'' : World} (h : Fr H w H' w') (h' : FrX X H' w' H'' w'') (hX : ∀ g, X g → w.heap.size ≤ g) : Fr H w H'' w'' := by
  refine ⟨h'.os.trans h.os, h'.tape.trans h.tape, h'.output.trans h.output, Nat.le_trans h.size h'.size, h.le.trans h'.le, fun g x e e0 => ?_, fun g hg e0 _ => ?_⟩
  · cases e1 : H' g with
    | none => exact Nat.le_trans h.size (h'.new g x e e1)
    | some y => exact h.new g y e1 e0
  · have e1 : H' g = none := by
      cases e1 : H' g with
      | none => rfl
      | some y => have := h.new g y e1 e0; omega
    exact (h'.old g (Nat.lt_of_lt_of_le hg h.size) e1 (fun x => by have := hX g x; omega)).trans (h.old g hg e0 (fun x => x))
theorem Fr.below {B : Nat} (h : Fr H w H' w') (hB : B ≤ w.heap.size) (hH : ∀ g, g < B → H g = none) : Below B w w' :=
  ⟨h.os, h.tape, h.output, h.size, fun g hg => h.old g (Nat.lt_of_lt_of_le hg hB) (hH g hg) (fun x => x)⟩
theorem HW.below (h : HW H w) (hb : Below w.heap.size w w') : HW H w' := fun g t m e => by
  obtain ⟨cs, h1, h2, h3⟩ := h g t m e
  have hlt : g < w.heap.size := by
    rcases Nat.lt_or_ge g w.heap.size with h | h
    · exact h
    · rw [Array.getElem?_eq_none h] at h1; cases h1
  exact ⟨cs, (hb.block g hlt).trans h1, h2, h3⟩
theorem Fr.of_below (hb : Below w.heap.size w w') : Fr H w H w' := ⟨hb.os, hb.tape, hb.output, hb.size, Hp.Le.refl H, fun g x h e => (by rw [h] at e; cases e), fun g hg _ _ => hb.block g hg⟩
theorem HW.lt (h : HW H w) {g : Nat} {x : TypeId × Nat} (e : H g = some x) : g < w.heap.size := by
  obtain ⟨cs, h1, _⟩ := h g x.1 x.2 e
  rcases Nat.lt_or_ge g w.heap.size with h | h
  · exact h
  · rw [Array.getElem?_eq_none h] at h1; cases h1
theorem Box.lt {g : Nat} {t : TypeId} {ks : List Cel} (h : Box H w g t ks) : g < w.heap.size := by
  obtain ⟨cs, h1, _⟩ := h
  rcases Nat.lt_or_ge g w.heap.size with h | h
  · exact h
  · rw [Array.getElem?_eq_none h] at h1; cases h1
theorem Box.keep {X : Nat → Prop} {g : Nat} {t : TypeId} {ks : List Cel} (h : Box H w g t ks) (e : H g = none) (hX : ¬ X g) (f : FrX X H w H' w') : Box H' w' g t ks := by
  have hlt := h.lt
  obtain ⟨cs, h1, h2⟩ := h
  exact ⟨cs, (f.old g hlt e hX).trans h1, h2.up f.le⟩
theorem FrX.none_ {X : Nat → Prop} {g : Nat} (f : FrX X H w H' w') (e : H g = none) (hg : g < w.heap.size) : H' g = none := by
  cases e1 : H' g with
  | none => rfl
  | some y => have := f.new g y e1 e; omega
end
end Go.Proofs.Ytdnjdbafffifeaa
