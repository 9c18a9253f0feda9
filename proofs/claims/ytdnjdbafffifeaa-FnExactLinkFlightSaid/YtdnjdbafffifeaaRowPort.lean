/-
  Ports (laws.Port) as they come in: the cells of every struct of the port, opened.
-/
import Derived.Test.YtdnjdbafffifeaaRow
import Derived.Test.YtdnjdbafffifeaaGot
import Derived.Test.YtdnjdbafffifeaaInts
import Derived.Deep.SlicePairs
import Derived.Lib.SmallJoins
set_option linter.unusedVariables false
set_option linter.unusedSimpArgs false
namespace Go.Proofs.Ytdnjdbafffifeaa
open Go.ChangeShapes Go.WideShapes Go.ChangeAt Go.RowKit Go.Joins Go.Deep

section
variable {H : Type} {enc : TypeId × Value → H} {W : World} {fuel : Nat} {cs : List Value} {x : DataW H × List MemPlace}
abbrev TrodC (enc : TypeId × Value → H) (W : World) (fuel : Nat) (t : TypeId) (cs : List Value) (x : DataW H × List MemPlace) : Prop := DataW.trod enc Try.prog W 0 (fun _ => true) true fuel t cs = some x

theorem cut {l : List Value} {o k : Nat} (k' : Nat) (hk : k = k') (h : (cs.drop o).take k = l) : cs.drop o = l ++ cs.drop (o + k') := by
  subst hk; subst h
  rw [← List.drop_drop, List.take_append_drop]
theorem field {t : TypeId} {fs : Array Field} (ht : Try.prog.underlying t = some (.struct fs)) (h : TrodC enc W fuel t cs x) : cs.length = Try.prog.cellsOf t ∧ ∀ (i : Nat) (f : Field), fs[i]? = some f → ∃ n y, TrodC enc W n f.type ((cs.drop f.offset).take (Try.prog.cellsOf f.type)) y := by
  obtain ⟨xs, n, _, _, hl, hx, hf⟩ := DataW.trod_struct ht h
  refine ⟨hl, fun i f hi => ?_⟩
  have hi' : i < xs.length := by
    rw [hx]
    rcases Nat.lt_or_ge i fs.size with h | h
    · exact h
    · rw [Array.getElem?_eq_none h] at hi; cases hi
  exact ⟨n, xs[i], by rw [TrodC, hf i f hi, List.getElem?_eq_getElem hi']⟩
theorem cells_int (h : TrodC enc W fuel 3 cs x) : ∃ a : Int, cs = [.int .i64 a] ∧ (Lit.int .i64 a).wf = true := by
  obtain ⟨a, e, _, hw⟩ := DataW.trod_int Try.underlying3 h
  exact ⟨a, e, hw⟩
theorem cells_bool (h : TrodC enc W fuel 4 cs x) : ∃ a : Bool, cs = [.bool a] := by
  obtain ⟨a, e, _⟩ := DataW.trod_bool Try.underlying4 h
  exact ⟨a, e⟩
theorem cells_ints (h : TrodC enc W fuel 27 cs x) : ∃ (A : Option Addr) (n c : Nat) (zs : List Int), cs = [.slice A n c] ∧ Ints W A n zs ∧ (∀ z ∈ zs, (Lit.int .i64 z).wf = true) ∧ n ≤ c ∧ c ≤ maxLen := by
  rcases open_ints Try.underlying27 Try.underlying3 (by kernel_rfl) h with ⟨hcs, _⟩ | ⟨a, len, cap, zs, hcs, _, hl, hm, hz, _, hcell, hw⟩
  · exact ⟨none, 0, 0, [], hcs, Reads.none_, fun _ h => (by cases h), Nat.le_refl _, by unfold maxLen; omega⟩
  · simp only [if_true] at hz
    refine ⟨some a, len, cap, zs.take len, hcs, ⟨by simp; omega, fun h0 => ⟨a, rfl, ?_, fun j u hu => ?_⟩⟩, fun z hz => hw z (List.mem_of_mem_take hz), hl, hm⟩
    · have := World.block_lt_of_cell? W _ (hcell 0 (by omega))
      rwa [block_of_add] at this
    · simp only [List.getElem?_map, Option.map_eq_some_iff] at hu
      obtain ⟨z, hz1, rfl⟩ := hu
      rw [List.getElem?_take] at hz1
      split at hz1
      · rename_i hj
        have hjz : j < zs.length := by omega
        rw [hcell j hjz]
        simp only [List.getD, hz1, Option.getD_some]
      · cases hz1
theorem choose_pairs {α : Type} {n : Nat} {p : Nat → α → Prop} (h : ∀ i, i < n → ∃ a, p i a) : ∃ l : List α, l.length = n ∧ ∀ i a, l[i]? = some a → p i a := by
  induction n with
  | zero => exact ⟨[], rfl, fun i a h => by simp at h⟩
  | succ k ih =>
    obtain ⟨l, h1, h2⟩ := ih fun i hi => h i (by omega)
    obtain ⟨a, ha⟩ := h k (by omega)
    refine ⟨l ++ [a], by simp [h1], fun i b hb => ?_⟩
    rw [List.getElem?_append] at hb
    split at hb
    · exact h2 i b hb
    · rename_i hi
      rcases Nat.lt_or_ge i (k + 1) with h' | h'
      · have : i = k := by omega
        subst this
        simp [h1] at hb
        subst hb; exact ha
      · rw [List.getElem?_eq_none (by simp; omega)] at hb; cases hb
theorem gotCells_reads {gs : List (Int × Int)} {j : Nat} {u : Value} (h : (gotCells gs)[j]? = some u) : ∃ k g, gs[k]? = some g ∧ ((j = k * 2 ∧ u = .int .i64 g.1) ∨ (j = k * 2 + 1 ∧ u = .int .i64 g.2)) := by
  have hj : j < gs.length * 2 := by
    rw [← gotCells_length]
    rcases Nat.lt_or_ge j (gotCells gs).length with h' | h'
    · exact h'
    · rw [List.getElem?_eq_none h'] at h; cases h
  have hk : j / 2 < gs.length := by omega
  have hg := List.getElem?_eq_getElem hk
  obtain ⟨h1, h2⟩ := gotCells_at hg
  refine ⟨j / 2, _, hg, ?_⟩
  rcases Nat.mod_two_eq_zero_or_one j with hm | hm
  · have e : j / 2 * 2 = j := by omega
    rw [e, h] at h1
    exact .inl ⟨e.symm, by injection h1⟩
  · have e : j / 2 * 2 + 1 = j := by omega
    rw [e, h] at h2
    exact .inr ⟨e.symm, by injection h2⟩
theorem cells_gots (h : TrodC enc W fuel 24 cs x) : ∃ (A : Option Addr) (n c : Nat) (gs : List (Int × Int)), cs = [.slice A n c] ∧ Gots W A n gs ∧ n ≤ c ∧ c ≤ maxLen := by
  rcases open_slice_pairs Try.underlying24 Try.underlying132 (by kernel_rfl) rfl rfl (by kernel_rfl) (by kernel_rfl) h with ⟨hcs, _⟩ | ⟨a, len, cap, m, n, V0, V1, D0, D1, P0, P1, hcs, _, hl, hm, hmm, _, hcell⟩
  · exact ⟨none, 0, 0, [], hcs, Gots.nil, Nat.le_refl _, by unfold maxLen; omega⟩
  · simp only [if_true] at hmm
    have each : ∀ i, i < len → ∃ g : Int × Int, W.cell? (a.add (i * 2)) = some (.int .i64 g.1) ∧ W.cell? (a.add (i * 2 + 1)) = some (.int .i64 g.2) := by
      intro i hi
      obtain ⟨c0, c1, t0, t1⟩ := hcell i (by omega)
      obtain ⟨a0, e0, _⟩ := cells_int t0
      obtain ⟨a1, e1, _⟩ := cells_int t1
      injection e0 with e0; injection e1 with e1
      exact ⟨(a0, a1), by rw [c0, e0], by rw [c1, e1]⟩
    obtain ⟨gs, hgl, hgs⟩ := choose_pairs each
    refine ⟨some a, len, cap, gs, hcs, ⟨by rw [gotCells_length, hgl], fun h0 => ⟨a, rfl, ?_, fun j u hu => ?_⟩⟩, hl, hm⟩
    · obtain ⟨g, c0, _⟩ := each 0 (by omega)
      have := World.block_lt_of_cell? W _ c0
      rwa [block_of_add] at this
    · obtain ⟨k, g, hk, ⟨rfl, rfl⟩ | ⟨rfl, rfl⟩⟩ := gotCells_reads hu
      · exact (hgs k g hk).1
      · exact (hgs k g hk).2
set_option maxRecDepth 100000 in
theorem cells_format (h : TrodC enc W fuel 23 cs x) : ∃ b p s : Int, cs = [.int .i64 b, .int .i64 p, .int .i64 s] := by
  obtain ⟨hl, hf⟩ := field Try.underlying23 h
  replace hl : cs.length = 3 := hl.trans (by kernel_rfl)
  obtain ⟨_, _, t0⟩ := hf 0 _ rfl
  obtain ⟨b, e0, _⟩ := cells_int t0
  have c0 : cs.drop 0 = [.int .i64 b] ++ cs.drop 1 := cut 1 (by kernel_rfl) e0
  obtain ⟨_, _, t1⟩ := hf 1 _ rfl
  obtain ⟨p, e1, _⟩ := cells_int t1
  have c1 : cs.drop 1 = [.int .i64 p] ++ cs.drop 2 := cut 1 (by kernel_rfl) e1
  obtain ⟨_, _, t2⟩ := hf 2 _ rfl
  obtain ⟨s, e2, _⟩ := cells_int t2
  have c2 : cs.drop 2 = [.int .i64 s] ++ cs.drop 3 := cut 1 (by kernel_rfl) e2
  have z : cs.drop 3 = [] := List.drop_eq_nil_of_le (by omega)
  refine ⟨b, p, s, ?_⟩
  rw [← List.drop_zero (l := cs), c0, c1, c2, z]
  rfl
set_option maxRecDepth 100000 in
theorem cells_modem (h : TrodC enc W fuel 31 cs x) : ∃ ma mb mc md : Bool, cs = [.bool ma, .bool mb, .bool mc, .bool md] := by
  obtain ⟨hl, hf⟩ := field Try.underlying31 h
  replace hl : cs.length = 4 := hl.trans (by kernel_rfl)
  obtain ⟨_, _, t0⟩ := hf 0 _ rfl
  obtain ⟨ma, e0⟩ := cells_bool t0
  have c0 : cs.drop 0 = [.bool ma] ++ cs.drop 1 := cut 1 (by kernel_rfl) e0
  obtain ⟨_, _, t1⟩ := hf 1 _ rfl
  obtain ⟨mb, e1⟩ := cells_bool t1
  have c1 : cs.drop 1 = [.bool mb] ++ cs.drop 2 := cut 1 (by kernel_rfl) e1
  obtain ⟨_, _, t2⟩ := hf 2 _ rfl
  obtain ⟨mc, e2⟩ := cells_bool t2
  have c2 : cs.drop 2 = [.bool mc] ++ cs.drop 3 := cut 1 (by kernel_rfl) e2
  obtain ⟨_, _, t3⟩ := hf 3 _ rfl
  obtain ⟨md, e3⟩ := cells_bool t3
  have c3 : cs.drop 3 = [.bool md] ++ cs.drop 4 := cut 1 (by kernel_rfl) e3
  have z : cs.drop 4 = [] := List.drop_eq_nil_of_le (by omega)
  refine ⟨ma, mb, mc, md, ?_⟩
  rw [← List.drop_zero (l := cs), c0, c1, c2, c3, z]
  rfl
set_option maxRecDepth 100000 in
theorem cells_recv (h : TrodC enc W fuel 26 cs x) : ∃ (rr rt ra : Int) (rl : Bool) (RA : Option Addr) (rn rc : Nat) (gs : List (Int × Int)), cs = [.int .i64 rr, .int .i64 rt, .slice RA rn rc, .bool rl, .int .i64 ra] ∧ Gots W RA rn gs ∧ rn ≤ rc ∧ rc ≤ maxLen := by
  obtain ⟨hl, hf⟩ := field Try.underlying26 h
  replace hl : cs.length = 5 := hl.trans (by kernel_rfl)
  obtain ⟨_, _, t0⟩ := hf 0 _ rfl
  obtain ⟨rr, e0, _⟩ := cells_int t0
  have c0 : cs.drop 0 = [.int .i64 rr] ++ cs.drop 1 := cut 1 (by kernel_rfl) e0
  obtain ⟨_, _, t1⟩ := hf 1 _ rfl
  obtain ⟨rt, e1, _⟩ := cells_int t1
  have c1 : cs.drop 1 = [.int .i64 rt] ++ cs.drop 2 := cut 1 (by kernel_rfl) e1
  obtain ⟨_, _, t2⟩ := hf 2 _ rfl
  obtain ⟨RA, rn, rc, gs, e2, hg, hrc, hrm⟩ := cells_gots t2
  have c2 : cs.drop 2 = [.slice RA rn rc] ++ cs.drop 3 := cut 1 (by kernel_rfl) e2
  obtain ⟨_, _, t3⟩ := hf 3 _ rfl
  obtain ⟨rl, e3⟩ := cells_bool t3
  have c3 : cs.drop 3 = [.bool rl] ++ cs.drop 4 := cut 1 (by kernel_rfl) e3
  obtain ⟨_, _, t4⟩ := hf 4 _ rfl
  obtain ⟨ra, e4, _⟩ := cells_int t4
  have c4 : cs.drop 4 = [.int .i64 ra] ++ cs.drop 5 := cut 1 (by kernel_rfl) e4
  have z : cs.drop 5 = [] := List.drop_eq_nil_of_le (by omega)
  refine ⟨rr, rt, ra, rl, RA, rn, rc, gs, ?_, hg, hrc, hrm⟩
  rw [← List.drop_zero (l := cs), c0, c1, c2, c3, c4, z]
  rfl
set_option maxRecDepth 100000 in
theorem cells_send (h : TrodC enc W fuel 29 cs x) : ∃ (sr sh sl : Int) (SA : Option Addr) (sn sc : Nat) (xs : List Int), cs = [.int .i64 sr, .slice SA sn sc, .int .i64 sh, .int .i64 sl] ∧ Ints W SA sn xs ∧ sn ≤ sc ∧ sc ≤ maxLen := by
  obtain ⟨hl, hf⟩ := field Try.underlying29 h
  replace hl : cs.length = 4 := hl.trans (by kernel_rfl)
  obtain ⟨_, _, t0⟩ := hf 0 _ rfl
  obtain ⟨sr, e0, _⟩ := cells_int t0
  have c0 : cs.drop 0 = [.int .i64 sr] ++ cs.drop 1 := cut 1 (by kernel_rfl) e0
  obtain ⟨_, _, t1⟩ := hf 1 _ rfl
  obtain ⟨SA, sn, sc, xs, e1, hx, hxw, hsc, hsm⟩ := cells_ints t1
  have c1 : cs.drop 1 = [.slice SA sn sc] ++ cs.drop 2 := cut 1 (by kernel_rfl) e1
  obtain ⟨_, _, t2⟩ := hf 2 _ rfl
  obtain ⟨sh, e2, _⟩ := cells_int t2
  have c2 : cs.drop 2 = [.int .i64 sh] ++ cs.drop 3 := cut 1 (by kernel_rfl) e2
  obtain ⟨_, _, t3⟩ := hf 3 _ rfl
  obtain ⟨sl, e3, _⟩ := cells_int t3
  have c3 : cs.drop 3 = [.int .i64 sl] ++ cs.drop 4 := cut 1 (by kernel_rfl) e3
  have z : cs.drop 4 = [] := List.drop_eq_nil_of_le (by omega)
  refine ⟨sr, sh, sl, SA, sn, sc, xs, ?_, hx, hsc, hsm⟩
  rw [← List.drop_zero (l := cs), c0, c1, c2, c3, z]
  rfl
set_option maxRecDepth 100000 in
theorem cells_port (h : TrodC enc W fuel 33 cs x) : ∃ (b p s en ct rr rt ra sr sh sl : Int) (rl ma mb mc md : Bool) (rn sn : Nat) (gs : List (Int × Int)) (xs : List Int) (RA SA : Option Addr) (rc sc : Nat), cs = [.int .i64 b, .int .i64 p, .int .i64 s, .int .i64 en, .int .i64 ct, .int .i64 rr, .int .i64 rt, .slice RA rn rc, .bool rl, .int .i64 ra, .int .i64 sr, .slice SA sn sc, .int .i64 sh, .int .i64 sl, .bool ma, .bool mb, .bool mc, .bool md] ∧ Gots W RA rn gs ∧ rn ≤ rc ∧ rc ≤ maxLen ∧ Ints W SA sn xs ∧ sn ≤ sc ∧ sc ≤ maxLen := by
  obtain ⟨hl, hf⟩ := field Try.underlying33 h
  replace hl : cs.length = 18 := hl.trans (by kernel_rfl)
  obtain ⟨_, _, t0⟩ := hf 0 _ rfl
  obtain ⟨b, p, s, e0⟩ := cells_format t0
  have c0 : cs.drop 0 = [.int .i64 b, .int .i64 p, .int .i64 s] ++ cs.drop 3 := cut 3 (by kernel_rfl) e0
  obtain ⟨_, _, t1⟩ := hf 1 _ rfl
  obtain ⟨en, e1, _⟩ := cells_int t1
  have c1 : cs.drop 3 = [.int .i64 en] ++ cs.drop 4 := cut 1 (by kernel_rfl) e1
  obtain ⟨_, _, t2⟩ := hf 2 _ rfl
  obtain ⟨ct, e2, _⟩ := cells_int t2
  have c2 : cs.drop 4 = [.int .i64 ct] ++ cs.drop 5 := cut 1 (by kernel_rfl) e2
  obtain ⟨_, _, t3⟩ := hf 3 _ rfl
  obtain ⟨rr, rt, ra, rl, RA, rn, rc, gs, e3, hg, hrc, hrm⟩ := cells_recv t3
  have c3 : cs.drop 5 = [.int .i64 rr, .int .i64 rt, .slice RA rn rc, .bool rl, .int .i64 ra] ++ cs.drop 10 := cut 5 (by kernel_rfl) e3
  obtain ⟨_, _, t4⟩ := hf 4 _ rfl
  obtain ⟨sr, sh, sl, SA, sn, sc, xs, e4, hx, hsc, hsm⟩ := cells_send t4
  have c4 : cs.drop 10 = [.int .i64 sr, .slice SA sn sc, .int .i64 sh, .int .i64 sl] ++ cs.drop 14 := cut 4 (by kernel_rfl) e4
  obtain ⟨_, _, t5⟩ := hf 5 _ rfl
  obtain ⟨ma, mb, mc, md, e5⟩ := cells_modem t5
  have c5 : cs.drop 14 = [.bool ma, .bool mb, .bool mc, .bool md] ++ cs.drop 18 := cut 4 (by kernel_rfl) e5
  have z : cs.drop 18 = [] := List.drop_eq_nil_of_le (by omega)
  refine ⟨b, p, s, en, ct, rr, rt, ra, sr, sh, sl, rl, ma, mb, mc, md, rn, sn, gs, xs, RA, SA, rc, sc, ?_, hg, hrc, hrm, hx, hsc, hsm⟩
  rw [← List.drop_zero (l := cs), c0, c1, c2, c3, c4, c5, z]
  rfl
end
set_option maxRecDepth 100000 in
theorem open_port {H : Type} {enc : TypeId × Value → H} {W : World} {r : Reach} {b0 : Nat} {v : Value} {d : DataW H} {ps : List MemPlace}
    (hv : Value.okWide Try.prog W r b0 33 v) (h : DataW.Trod enc Try.prog W 0 (fun _ => true) true 33 v d ps) :
    ∃ (b p s en ct rr rt ra sr sh sl : Int) (rl ma mb mc md : Bool) (rn sn : Nat) (gs : List (Int × Int)) (xs : List Int) (RA SA : Option Addr) (rc sc : Nat), v = .agg #[.int .i64 b, .int .i64 p, .int .i64 s, .int .i64 en, .int .i64 ct, .int .i64 rr, .int .i64 rt, .slice RA rn rc, .bool rl, .int .i64 ra, .int .i64 sr, .slice SA sn sc, .int .i64 sh, .int .i64 sl, .bool ma, .bool mb, .bool mc, .bool md] ∧ Gots W RA rn gs ∧ rn ≤ rc ∧ rc ≤ maxLen ∧ Ints W SA sn xs ∧ sn ≤ sc ∧ sc ≤ maxLen := by
  obtain ⟨cs, rfl, _⟩ := okWide_struct Try.underlying33 hv
  obtain ⟨fuel, hf⟩ := h
  obtain ⟨b, p, s, en, ct, rr, rt, ra, sr, sh, sl, rl, ma, mb, mc, md, rn, sn, gs, xs, RA, SA, rc, sc, e, hr⟩ := cells_port hf
  refine ⟨b, p, s, en, ct, rr, rt, ra, sr, sh, sl, rl, ma, mb, mc, md, rn, sn, gs, xs, RA, SA, rc, sc, ?_, hr⟩
  simp only [Value.cells] at e
  rw [← Array.toArray_toList (xs := cs), e]
end Go.Proofs.Ytdnjdbafffifeaa
