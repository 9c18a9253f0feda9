/-
  PORTS, PAIRS, DRIVERS, LINKS AS LISTS OF CELLS WITH THEIR CONTENTS BESIDE: what a port is told by its contents (PortD); its contracts in these words. Condition: at most 2^20 elements.
-/
import Derived.Test.YtdnjdbafffifeaaPort
import Derived.Test.YtdnjdbafffifeaaPortEq
import Derived.Test.YtdnjdbafffifeaaWhole
set_option linter.unusedVariables false
set_option linter.unusedSimpArgs false
namespace Go.Proofs.Ytdnjdbafffifeaa
open Go.ChangeShapes Go.WideShapes Go.ChangeAt Go.RowKit

/-- The contents of a port. -/
structure PortD where
  (b p s en ct rr rt ra sr sh sl : Int)
  (rl ma mb mc md : Bool)
  (gs : List (Int × Int))
  (xs : List Int)
def PortD.ok (d : PortD) : Bool := portOk d.b d.p d.s d.en d.ct d.rr d.rt d.gs d.ra d.sr d.xs d.sh d.sl
def PortD.small (d : PortD) : Prop := d.gs.length ≤ 1048576 ∧ d.xs.length ≤ 1048576
/-- Its lists are such as can be. -/
def PortD.fits (d : PortD) : Prop := d.gs.length ≤ maxLen ∧ d.xs.length ≤ maxLen
/-- The 18 cells vs are a port with the contents d. -/
def PortIs (w : World) (vs : List Value) : PortD → Prop
  | ⟨b, p, s, en, ct, rr, rt, ra, sr, sh, sl, rl, ma, mb, mc, md, gs, xs⟩ => ∃ (RA SA : Option Addr) (rn sn rc sc : Nat), vs = [.int .i64 b, .int .i64 p, .int .i64 s, .int .i64 en, .int .i64 ct, .int .i64 rr, .int .i64 rt, .slice RA rn rc, .bool rl, .int .i64 ra, .int .i64 sr, .slice SA sn sc, .int .i64 sh, .int .i64 sl, .bool ma, .bool mb, .bool mc, .bool md] ∧ Gots w RA rn gs ∧ Ints w SA sn xs
section
variable {w w' : World} {vs : List Value} {d : PortD}
theorem PortIs.len (h : PortIs w vs d) : vs.length = 18 := by
  obtain ⟨RA, SA, rn, sn, rc, sc, rfl, _⟩ := h
  rfl
theorem PortIs.below (h : PortIs w vs d) (hb : Below w.heap.size w w') : PortIs w' vs d := by
  obtain ⟨RA, SA, rn, sn, rc, sc, rfl, hg, hx⟩ := h
  exact ⟨RA, SA, rn, sn, rc, sc, rfl, hg.below hb, hx.below hb⟩
theorem PortIs.drew (h : PortIs w vs d) : PortIs w.drew vs d := h
theorem PortIs.one (h : PortIs w vs d) : vs.all (·.oneCell') = true := by
  obtain ⟨RA, SA, rn, sn, rc, sc, rfl, _⟩ := h
  rfl
end
theorem spec_PortValidV (vs : List Value) (d : PortD) (w : World) (h : PortIs w vs d) (hs : d.small) :
    Calls Try.prog 38 #[.agg vs.toArray] w fun e w' => e = .returned (.bool d.ok) ∧ Below w.heap.size w w' := by
  obtain ⟨RA, SA, rn, sn, rc, sc, rfl, hg, hx⟩ := h
  exact spec_PortValid w hg hx (hg.len ▸ hs.1) (hx.len ▸ hs.2)
theorem impl_PortValidV (vs : List Value) (d : PortD) (w : World) (h : PortIs w vs d) (hs : d.small) :
    Calls Try.prog 35 #[.agg vs.toArray] w fun e w' => e = .returned (.bool d.ok) ∧ Below w.heap.size w w' := by
  obtain ⟨RA, SA, rn, sn, rc, sc, rfl, hg, hx⟩ := h
  exact impl_PortValid w hg hx (hg.len ▸ hs.1) (hx.len ▸ hs.2)
theorem spec_PortValidW (vs : List Value) (d : PortD) (w : World) (h : PortIs w vs d) (hs : d.small) (v : Bool) (hv : d.ok = v) :
    Calls Try.prog 38 #[.agg vs.toArray] w fun e w' => e = .returned (.bool v) ∧ Below w.heap.size w w' := by
  subst hv
  exact spec_PortValidV vs d w h hs
theorem impl_PortValidW (vs : List Value) (d : PortD) (w : World) (h : PortIs w vs d) (hs : d.small) (v : Bool) (hv : d.ok = v) :
    Calls Try.prog 35 #[.agg vs.toArray] w fun e w' => e = .returned (.bool v) ∧ Below w.heap.size w w' := by
  subst hv
  exact impl_PortValidV vs d w h hs
theorem Blk.new1 (w : World) (o : Obj) (t : TypeId) (cs : Array Value) : Blk ((w.alloc o).alloc (.cells cs t)) (w.heap.size + 1) t cs := by
  have h := Blk.new (w.alloc o) t cs
  rwa [World.size_alloc] at h
/-- Such a port whose lists are new: they lie in blocks from 'base' on. -/
def PortOwn (w : World) (base : Nat) (vs : List Value) : PortD → Prop
  | ⟨b, p, s, en, ct, rr, rt, ra, sr, sh, sl, rl, ma, mb, mc, md, gs, xs⟩ => ∃ (RA SA : Option Addr) (rn sn rc sc : Nat), vs = [.int .i64 b, .int .i64 p, .int .i64 s, .int .i64 en, .int .i64 ct, .int .i64 rr, .int .i64 rt, .slice RA rn rc, .bool rl, .int .i64 ra, .int .i64 sr, .slice SA sn sc, .int .i64 sh, .int .i64 sl, .bool ma, .bool mb, .bool mc, .bool md] ∧ w.ownsRow base 64 2 (.slice RA rn rc) rn (gotCells gs) ∧ w.ownsRow base 3 1 (.slice SA sn sc) sn (xs.map (Value.int .i64))
theorem PortOwn.is {w : World} {base : Nat} {vs : List Value} {d : PortD} (h : PortOwn w base vs d) : PortIs w vs d := by
  obtain ⟨RA, SA, rn, sn, rc, sc, rfl, hg, hx⟩ := h
  exact ⟨RA, SA, rn, sn, rc, sc, rfl, Gots.of_own hg, Ints.of_own hx⟩
theorem PortOwn.below {w w' : World} {base : Nat} {vs : List Value} {d : PortD} (h : PortOwn w base vs d) (hb : Below w.heap.size w w') : PortOwn w' base vs d := by
  obtain ⟨RA, SA, rn, sn, rc, sc, rfl, hg, hx⟩ := h
  exact ⟨RA, SA, rn, sn, rc, sc, rfl, own_below_ hg hb, own_below_ hx hb⟩
theorem PortOwn.only {w w' : World} {base g : Nat} {vs : List Value} {d : PortD} (h : PortOwn w base vs d) (hb : w.grownBy w' (some g)) (hg : g < base) : PortOwn w' base vs d := by
  obtain ⟨RA, SA, rn, sn, rc, sc, rfl, h1, h2⟩ := h
  exact ⟨RA, SA, rn, sn, rc, sc, rfl, own_only h1 hb hg, own_only h2 hb hg⟩
theorem PortOwn.set {w : World} {base : Nat} {vs : List Value} {d : PortD} (h : PortOwn w base vs d) {p : Addr} (hp : p.block < base) (u : Value) : PortOwn (w.setCell p u) base vs d := by
  obtain ⟨RA, SA, rn, sn, rc, sc, rfl, h1, h2⟩ := h
  exact ⟨RA, SA, rn, sn, rc, sc, rfl, own_set h1 hp u, own_set h2 hp u⟩
theorem PortOwn.alloc {w : World} {base : Nat} {vs : List Value} {d : PortD} (h : PortOwn w base vs d) (o : Obj) : PortOwn (w.alloc o) base vs d := h.below (b_alloc (b_refl _) _)
theorem PortOwn.low {w : World} {base base' : Nat} {vs : List Value} {d : PortD} (h : PortOwn w base vs d) (hb : base' ≤ base) : PortOwn w base' vs d := by
  obtain ⟨RA, SA, rn, sn, rc, sc, rfl, hg, hx⟩ := h
  exact ⟨RA, SA, rn, sn, rc, sc, rfl, own_mono_ hg hb, own_mono_ hx hb⟩
theorem PortOwn.lift_ {w0 w : World} {base : Nat} {vs : List Value} {d : PortD} (_h0 : PortOwn w0 base vs d) (h : PortOwn w base vs d) : PortOwn w base vs d := h
theorem PortOwn.len {w : World} {base : Nat} {vs : List Value} {d : PortD} (h : PortOwn w base vs d) : vs.length = 18 := h.is.len
theorem toPortV (vs : List Value) (d : PortD) (w : World) (h : PortIs w vs d) (hs : d.small) :
    Calls Try.prog 27 #[.agg vs.toArray] w fun e w' => ∃ vs' : List Value, e = .returned (.agg vs'.toArray) ∧ PortOwn w' w.heap.size vs' d ∧ Below w.heap.size w w' := by
  obtain ⟨RA, SA, rn, sn, rc, sc, rfl, hg, hx⟩ := h
  refine (toPort_any w hg hx (hg.len ▸ hs.1) (hx.len ▸ hs.2)).mono ?_
  rintro e w' ⟨RA9, SA9, rc9, sc9, rfl, h1, h2, h3⟩
  exact ⟨_, rfl, ⟨RA9, SA9, rn, sn, rc9, sc9, rfl, h1, h2⟩, h3⟩
theorem eqPortV (vs vs' : List Value) (d : PortD) (w : World) (h : PortIs w vs d) (h' : PortIs w vs' d) (hs : d.small) :
    Calls Try.prog 29 #[.agg vs.toArray, .agg vs'.toArray] w fun e w' => e = .returned (.bool true) ∧ Below w.heap.size w w' := by
  obtain ⟨RA, SA, rn, sn, rc, sc, rfl, hg, hx⟩ := h
  obtain ⟨RA2, SA2, rn2, sn2, rc2, sc2, rfl, hg2, hx2⟩ := h'
  have e1 : rn2 = rn := hg2.len.symm.trans hg.len
  have e2 : sn2 = sn := hx2.len.symm.trans hx.len
  subst e1; subst e2
  exact eqPort_same w hg hx hg2 hx2 (hg.len ▸ hs.1) (hx.len ▸ hs.2)
/-- Port's cells with two lists of any lengths (ahead of the test of their sizes). -/
def PortD.left (d : PortD) (l : Int) : Int := portLeft d.gs.length d.xs.length l
theorem szPortV (vs : List Value) (d : PortD) (l : Int) (w : World) (h : PortIs w vs d) (hf : d.fits) (h0 : 0 ≤ l) (hl : l ≤ 1048576) :
    Calls Try.prog 25 #[.agg vs.toArray, .int .i64 l] w fun e w' => e = .returned (.int .i64 (d.left l)) ∧ Below w.heap.size w w' := by
  obtain ⟨RA, SA, rn, sn, rc, sc, rfl, hg, hx⟩ := h
  have := hg.len
  have := hx.len
  obtain ⟨h1, h2⟩ := hf
  unfold maxLen at h1 h2
  refine (szPort_any (gs := d.gs) (xs := d.xs) l w (by omega) (by omega) h0 hl).mono ?_
  rintro e w' ⟨rfl, hb⟩
  exact ⟨by rw [PortD.left, hg.len, hx.len], hb⟩
theorem PortD.left_ok {d : PortD} {l : Int} (hl : l ≤ 1048576) (h : 0 ≤ d.left l) : d.small ∧ d.left l ≤ l := by
  have := portLeft_ok h
  unfold PortD.left PortD.small at *
  omega
/-- A part of a block's cells. -/
theorem sub_all (cs : List Value) : (cs.toArray.toList.drop 0).take cs.length = cs := by simp
theorem sub_l {cs a b : List Value} (h : cs = a ++ b) : (cs.toArray.toList.drop 0).take a.length = a := by
  subst h
  simp
theorem sub_r {cs a b : List Value} {n : Nat} (h : cs = a ++ b) (ha : a.length = n) : (cs.toArray.toList.drop n).take b.length = b := by
  subst h; subst ha
  simp
/-- A list of cells stored over a part of a block's. -/
theorem st_all {cs : Array Value} {v : List Value} (h : cs.size = v.length) : cs.toList.take 0 ++ v ++ cs.toList.drop (0 + v.length) = v := by
  rw [List.drop_eq_nil_of_le (by simp; omega)]
  simp
theorem st_l {cs : Array Value} {v z : List Value} {n : Nat} (hv : v.length = n) (hz : cs.toList.drop n = z) : cs.toList.take 0 ++ v ++ cs.toList.drop (0 + v.length) = v ++ z := by
  subst hz; subst hv
  simp
theorem st_r {a z v : List Value} {n : Nat} (ha : a.length = n) (hz : z.length = v.length) : (a ++ z).toArray.toList.take n ++ v ++ (a ++ z).toArray.toList.drop (n + v.length) = a ++ v := by
  subst ha
  simp [hz]
theorem tail_at {cs a l : List Value} {n : Nat} (h : cs = a ++ l) (ha : a.length = n) (i : Nat) {v : Value} (hv : l[i]? = some v) : cs.toArray[n + i]? = some v := by
  subst h; subst ha
  rw [List.getElem?_toArray, List.getElem?_append_right (by omega), Nat.add_sub_cancel_left]
  exact hv
theorem Blk.to2 {w : World} {g : Nat} {t : TypeId} {cs cs' : Array Value} (h : Blk w g t cs) (e : cs = cs') : Blk w g t cs' := e ▸ h
theorem Blk.setr {w : World} {g : Nat} {t : TypeId} {a l : List Value} {n : Nat} (h : Blk w g t (a ++ l).toArray) (ha : a.length = n) (i : Nat) (u : Value) : Blk (w.setCell ⟨g, n + i, none⟩ u) g t (a ++ l.set i u).toArray := by
  have h1 := h.set_ (n + i) u
  subst ha
  rwa [List.setIfInBounds_toArray, List.set_append_right _ _ (by omega), Nat.add_sub_cancel_left] at h1
end Go.Proofs.Ytdnjdbafffifeaa
