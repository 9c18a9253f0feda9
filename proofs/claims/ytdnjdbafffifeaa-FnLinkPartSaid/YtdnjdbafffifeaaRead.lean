/-
  THE READER OF A CODE (spec's l6Rd): 'l6Open' makes it, 'pick' returns a number from 0 to m - 1 and moves it on by one. Condition of 'pick': the number of picks so far is at most 10^9, m is at least 1.
-/
import Derived.Test.YtdnjdbafffifeaaRows
import Derived.Test.YtdnjdbafffifeaaKit
set_option linter.unusedVariables false
set_option linter.unusedSimpArgs false
namespace Go.Proofs.Ytdnjdbafffifeaa
open Go.ChangeShapes Go.WideShapes Go.ChangeAt Go.RowKit

def in_ (n a b : Int) : Bool := decide (a ≤ n) && decide (n ≤ b)
theorem l6In_any (n a b : Int) (w : World) : Calls Try.prog 40 #[.int .i64 n, .int .i64 a, .int .i64 b] w fun e w' => e = .returned (.bool (in_ n a b)) ∧ w = w' := by
  go_enter Try.func40, Try.ntmps40
  go_wp2
  all_goals
    go_ret
    exact ⟨ret_bool (by simp [in_]; omega), rfl⟩

/-- Cells that are bytes. -/
def Bytes (xs : List Value) : Prop := ∀ (i : Nat) (u : Value), xs[i]? = some u → ∃ x : Int, u = .int .u8 x ∧ 0 ≤ x ∧ x ≤ 255
theorem Bytes.take {xs : List Value} (h : Bytes xs) (k : Nat) : Bytes (xs.take k) := fun i u hu => by
  rw [List.getElem?_take] at hu
  split at hu
  · exact h i u hu
  · cases hu

/-- Block rb is a reader at place p. -/
def Rd (w : World) (rb p : Nat) : Prop := ∃ A n c xs, Blk w rb 82 #[.slice A n c, .int .i64 p] ∧ Reads w rb 1 A n xs ∧ n ≤ 2000 ∧ Bytes xs
theorem Rd.lt {w : World} {rb p : Nat} (h : Rd w rb p) : rb < w.heap.size := by
  obtain ⟨A, n, c, xs, h0, _⟩ := h
  exact h0.lt
theorem Rd.below {w w' : World} {B rb p : Nat} (h : Rd w rb p) (hb : Below B w w') (hr : rb < B) : Rd w' rb p := by
  obtain ⟨A, n, c, xs, h0, h1, h2⟩ := h
  exact ⟨A, n, c, xs, h0.below hb hr, h1.below (hb.mono (by omega)), h2⟩
theorem Rd.alloc {w : World} {rb p : Nat} (h : Rd w rb p) (o : Obj) : Rd (w.alloc o) rb p := h.below ((Below.refl w.heap.size w).alloc (Nat.le_refl _) o) h.lt
theorem Rd.drewN {w : World} {rb p : Nat} (h : Rd w rb p) (n : Nat) : Rd (w.drewN n) rb p := h
theorem Rd.drew {w : World} {rb p : Nat} (h : Rd w rb p) : Rd w.drew rb p := h
theorem Rd.setCell {w : World} {rb p : Nat} (h : Rd w rb p) {a : Addr} (ha : rb < a.block) (u : Value) : Rd (w.setCell a u) rb p := by
  obtain ⟨A, n, c, xs, h0, h1, h2⟩ := h
  exact ⟨A, n, c, xs, h0.far (by omega) u, h1.setCell (by omega) u, h2⟩
theorem Rd.grown {w w' : World} {rb p : Nat} {r : Option Nat} (h : Rd w rb p) (hg : w.grownBy w' r) (hr : ∀ k, r = some k → rb < k) : Rd w' rb p := by
  obtain ⟨A, n, c, xs, h0, h1, h2⟩ := h
  exact ⟨A, n, c, xs, h0.grown hg (fun e => by have := hr _ e.symm; omega), h1.grown hg (Nat.le_of_lt h0.lt) (fun g hg => Nat.le_of_lt (hr g hg)), h2⟩
theorem Rd.step {w : World} {rb p : Nat} (h : Rd w rb p) : Rd (w.setCell ⟨rb, 1, none⟩ (.int .i64 (p + 1))) rb (p + 1) := by
  obtain ⟨A, n, c, xs, h0, h1, h2⟩ := h
  refine ⟨A, n, c, xs, ?_, h1.setCell (Nat.le_refl _) _, h2⟩
  simpa using h0.set_ 1 (.int .i64 (p + 1))

set_option maxHeartbeats 1000000 in
theorem pick_near (rb p n c : Nat) (b off : Nat) (x : Int) (m : Int) (w : World) (h0 : w.cell? ⟨rb, 0, none⟩ = some (.slice (some ⟨b, off, none⟩) n c)) (h1 : w.cell? ⟨rb, 1, none⟩ = some (.int .i64 p)) (hf : w.frozen? ⟨rb, 1, none⟩ = false)
    (hp : p ≤ 1000000000) (hpn : p < n) (hm : 1 ≤ m) (hx : w.cell? ⟨b, off + p, none⟩ = some (.int .u8 x)) (hx0 : 0 ≤ x) (hx1 : x ≤ 255) (hb : b < rb) (hn : n ≤ 2000) :
    Calls Try.prog 31 #[.pointer (some ⟨rb, 0, none⟩), .int .i64 m] w fun e w' => ∃ v : Int, e = .returned (.int .i64 v) ∧ 0 ≤ v ∧ v < m ∧ ∃ k, w' = (w.setCell ⟨rb, 1, none⟩ (.int .i64 (p + 1))).drewN k := by
  go_enter Try.func31, Try.ntmps31
  go_wp2
  go_ret
  exact ⟨_, rfl, Int.emod_nonneg _ (by omega), Int.emod_lt_of_pos _ (by omega), 0, rfl⟩

set_option maxHeartbeats 1000000 in
theorem pick_far (rb p n c : Nat) (b off : Nat) (x y : Int) (m : Int) (w : World) (h0 : w.cell? ⟨rb, 0, none⟩ = some (.slice (some ⟨b, off, none⟩) n c)) (h1 : w.cell? ⟨rb, 1, none⟩ = some (.int .i64 p)) (hf : w.frozen? ⟨rb, 1, none⟩ = false)
    (hp : p ≤ 1000000000) (hpn : n ≤ p) (hn0 : 1 ≤ n) (hm : 1 ≤ m) (hx : w.cell? ⟨b, off + p % n, none⟩ = some (.int .u8 x)) (hx0 : 0 ≤ x) (hx1 : x ≤ 255)
    (hy : w.cell? ⟨b, off + (p * 7 + 3) % n, none⟩ = some (.int .u8 y)) (hy0 : 0 ≤ y) (hy1 : y ≤ 255) (hb : b < rb) (hn : n ≤ 2000) :
    Calls Try.prog 31 #[.pointer (some ⟨rb, 0, none⟩), .int .i64 m] w fun e w' => ∃ v : Int, e = .returned (.int .i64 v) ∧ 0 ≤ v ∧ v < m ∧ ∃ k, w' = (w.setCell ⟨rb, 1, none⟩ (.int .i64 (p + 1))).drewN k := by
  have i1 : (0 : Int) ≤ (p : Int) % (n : Int) := by omega
  have i2 : (p : Int) % (n : Int) < n := Int.emod_lt_of_pos _ (by omega)
  have i3 : (0 : Int) ≤ ((p : Int) * 7 + 3) % (n : Int) := Int.emod_nonneg _ (by omega)
  have i4 : ((p : Int) * 7 + 3) % (n : Int) < n := Int.emod_lt_of_pos _ (by omega)
  have j1 : (0 : Int) ≤ (p : Int) / (n : Int) := Int.ediv_nonneg (by omega) (by omega)
  have j2 : (p : Int) / (n : Int) ≤ p := Int.ediv_le_self _ (by omega)
  go_enter Try.func31, Try.ntmps31
  go_wp2_with fail
  go_quiet (fail)
  go_wp2
  go_ret
  have hr := xor_range (x := x * 131 + y * 1117 + ↑p * 29 + ↑p / ↑n * 53) (y := (x * 131 + y * 1117 + ↑p * 29 + ↑p / ↑n * 53) / 64) (m := m) (by omega) (by omega) (by omega) (by omega) hm
  exact ⟨_, rfl, hr.1, hr.2, nq, rfl⟩

set_option maxHeartbeats 1000000 in
theorem pick_none (rb p c : Nat) (A : Option Addr) (m : Int) (w : World) (h0 : w.cell? ⟨rb, 0, none⟩ = some (.slice A 0 c)) (h1 : w.cell? ⟨rb, 1, none⟩ = some (.int .i64 p)) (hf : w.frozen? ⟨rb, 1, none⟩ = false)
    (hp : p ≤ 1000000000) (hm : 1 ≤ m) :
    Calls Try.prog 31 #[.pointer (some ⟨rb, 0, none⟩), .int .i64 m] w fun e w' => ∃ v : Int, e = .returned (.int .i64 v) ∧ 0 ≤ v ∧ v < m ∧ ∃ k, w' = (w.setCell ⟨rb, 1, none⟩ (.int .i64 (p + 1))).drewN k := by
  go_enter Try.func31, Try.ntmps31
  go_wp2
  go_ret
  exact ⟨0, rfl, by omega, by omega, 0, rfl⟩

/-- A reader at some place. -/
def Rds (w : World) (rb : Nat) : Prop := ∃ p, Rd w rb p
theorem Rd.some {w : World} {rb p : Nat} (h : Rd w rb p) : Rds w rb := ⟨p, h⟩
theorem Rds.alloc {w : World} {rb : Nat} (h : Rds w rb) (o : Obj) : Rds (w.alloc o) rb := h.elim fun _ h => (h.alloc o).some
theorem Rds.drewN {w : World} {rb : Nat} (h : Rds w rb) (n : Nat) : Rds (w.drewN n) rb := h
theorem Rds.drew {w : World} {rb : Nat} (h : Rds w rb) : Rds w.drew rb := h
theorem Rds.setCell {w : World} {rb : Nat} (h : Rds w rb) {a : Addr} (ha : rb < a.block) (u : Value) : Rds (w.setCell a u) rb := h.elim fun _ h => (h.setCell ha u).some
/-- A reader at a place from a to b. -/
def RdB (w : World) (rb a b : Nat) : Prop := ∃ q, Rd w rb q ∧ a ≤ q ∧ q ≤ b
theorem Rd.bound {w : World} {rb q a b : Nat} (h : Rd w rb q) (h1 : a ≤ q) (h2 : q ≤ b) : RdB w rb a b := ⟨q, h, h1, h2⟩
theorem RdB.alloc {w : World} {rb a b : Nat} (h : RdB w rb a b) (o : Obj) : RdB (w.alloc o) rb a b := h.elim fun _ h => ⟨_, h.1.alloc o, h.2⟩
theorem RdB.drewN {w : World} {rb a b : Nat} (h : RdB w rb a b) (n : Nat) : RdB (w.drewN n) rb a b := h
theorem RdB.drew {w : World} {rb a b : Nat} (h : RdB w rb a b) : RdB w.drew rb a b := h
theorem RdB.setCell {w : World} {rb a b : Nat} (h : RdB w rb a b) {x : Addr} (hx : rb < x.block) (u : Value) : RdB (w.setCell x u) rb a b := h.elim fun _ h => ⟨_, h.1.setCell hx u, h.2⟩
theorem RdB.below {w w' : World} {rb a b : Nat} (h : RdB w rb a b) (hb : Below w.heap.size w w') : RdB w' rb a b := h.elim fun _ h => ⟨_, h.1.below hb h.1.lt, h.2⟩
/-- The reader, its place written anew. -/
theorem Rd.at_ {w : World} {rb q : Nat} {x : Int} (h : Rds w rb) (hx : x = (q : Int)) : Rd (w.setCell ⟨rb, 1, none⟩ (.int .i64 x)) rb q := by
  subst hx
  obtain ⟨p, A, n, c, xs, h0, h1, h2⟩ := h
  refine ⟨A, n, c, xs, ?_, h1.setCell (Nat.le_refl _) _, h2⟩
  simpa using h0.set_ 1 (.int .i64 q)
theorem Rds.at_ {w : World} {rb : Nat} {x : Int} (h : Rds w rb) (hx : 0 ≤ x) : Rds (w.setCell ⟨rb, 1, none⟩ (.int .i64 x)) rb := by
  obtain ⟨n, rfl⟩ := Int.eq_ofNat_of_zero_le hx
  exact (Rd.at_ h rfl).some
/-- What a pick leaves: a number, and the reader one place further. -/
def Picked (rb p : Nat) (m : Int) (w : World) (e : Ending) (w' : World) : Prop := ∃ v : Int, e = .returned (.int .i64 v) ∧ 0 ≤ v ∧ v < m ∧ Rd w' rb (p + 1) ∧ w.grownBy w' (some rb)

theorem pick_any (rb p : Nat) (m : Int) (w : World) (h : Rd w rb p) (hp : p ≤ 1000000000) (hm : 1 ≤ m) :
    Calls Try.prog 31 #[.pointer (some ⟨rb, 0, none⟩), .int .i64 m] w (Picked rb p m w) := by
  have hs := h.step
  have hk : ∀ k, w.grownBy ((w.setCell ⟨rb, 1, none⟩ (.int .i64 (p + 1))).drewN k) (some rb) := fun k => only_drewN (only_setCell (only_refl _ _) (.inl rfl) _) k
  obtain ⟨A, n, c, xs, h0, h1, h2, h3⟩ := h
  have c0 := h0.cell 0
  have c1 := h0.cell 1
  have f1 := h0.frozen 1
  have fin : ∀ (e : Ending) (w' : World), (∃ v : Int, e = .returned (.int .i64 v) ∧ 0 ≤ v ∧ v < m ∧ ∃ k, w' = (w.setCell ⟨rb, 1, none⟩ (.int .i64 (p + 1))).drewN k) → Picked rb p m w e w' := by
    rintro e w' ⟨v, rfl, hv0, hv1, k, rfl⟩
    exact ⟨v, rfl, hv0, hv1, hs.drewN k, hk k⟩
  by_cases hn : n = 0
  · subst hn
    exact (pick_none rb p c A m w (by simpa using c0) (by simpa using c1) f1 hp hm).mono fin
  · by_cases hpn : p < n
    · obtain ⟨b, o, u, rfl, hb, hu, hc⟩ := h1.at_ hpn
      obtain ⟨x, rfl, hx0, hx1⟩ := h3 _ _ hu
      exact (pick_near rb p n c b o x m w (by simpa using c0) (by simpa using c1) f1 hp hpn hm hc hx0 hx1 hb h2).mono fin
    · obtain ⟨b, o, u, rfl, hb, hu, hc⟩ := h1.at_ (k := p % n) (Nat.mod_lt _ (by omega))
      obtain ⟨b', o', u', hA, _, hu', hc'⟩ := h1.at_ (k := (p * 7 + 3) % n) (Nat.mod_lt _ (by omega))
      injection hA with hA
      injection hA with hb' ho'
      subst hb'; subst ho'
      obtain ⟨x, rfl, hx0, hx1⟩ := h3 _ _ hu
      obtain ⟨y, rfl, hy0, hy1⟩ := h3 _ _ hu'
      exact (pick_far rb p n c b o x y m w (by simpa using c0) (by simpa using c1) f1 hp (by omega) (by omega) hm hc hx0 hx1 hc' hy0 hy1 hb h2).mono fin

/-- A code that was handed in: a slice of at most 2^20 bytes. -/
def Code (w : World) (A : Option Addr) (n c : Nat) : Prop := ∃ xs, Reads w w.heap.size 1 A n xs ∧ Bytes xs ∧ n ≤ 1048576 ∧ n ≤ c ∧ c ≤ maxLen
theorem Code.below {w w' : World} {A : Option Addr} {n c : Nat} (h : Code w A n c) (hb : Below w.heap.size w w') : Code w' A n c := by
  obtain ⟨xs, h0, h1⟩ := h
  exact ⟨xs, (h0.below hb).more hb.size, h1⟩
theorem Code.alloc {w : World} {A : Option Addr} {n c : Nat} (h : Code w A n c) (o : Obj) : Code (w.alloc o) A n c := h.below (b_alloc (b_refl _) _)
/-- What opening a code leaves: a reader in a new block. -/
def Opened (w : World) (e : Ending) (w' : World) : Prop := ∃ rb, e = .returned (.pointer (some ⟨rb, 0, none⟩)) ∧ w.heap.size ≤ rb ∧ Rd w' rb 0 ∧ Below w.heap.size w w'

set_option maxHeartbeats 1000000 in
theorem open_any (A : Option Addr) (n c : Nat) (w : World) (hC : Code w A n c) : Calls Try.prog 22 #[.slice A n c] w (Opened w) := by
  obtain ⟨xs, h, hx, hn, hc, hc2⟩ := hC
  unfold maxLen at hc2
  by_cases h2 : n ≤ 2000
  · have h2' : ¬ 2000 < n := by omega
    go_enter Try.func22, Try.ntmps22
    go_wp2
    go_ret
    exact ⟨_, rfl, Nat.le_refl _, ⟨A, n, c, xs, Blk.new _ _ _, h.alloc (Nat.le_refl _) _, h2, hx⟩, (Below.refl _ _).alloc (Nat.le_refl _) _⟩
  · obtain ⟨b, o, u, rfl, _, _, _⟩ := h.at_ (k := 0) (by omega)
    go_enter Try.func22, Try.ntmps22
    go_wp2
    go_ret
    exact ⟨_, rfl, Nat.le_refl _, ⟨some ⟨b, o, none⟩, 2000, c, xs.take 2000, Blk.new _ _ _, (h.take (by omega)).alloc (Nat.le_refl _) _, by omega, hx.take _⟩, (Below.refl _ _).alloc (Nat.le_refl _) _⟩
end Go.Proofs.Ytdnjdbafffifeaa
