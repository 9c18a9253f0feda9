/-
  Pairs, drivers and links (laws.Pair, laws.Driver, laws.Link) as they come in, with their contents.
-/
import Derived.Test.YtdnjdbafffifeaaRowPortV
import Derived.Test.YtdnjdbafffifeaaLink
set_option linter.unusedVariables false
set_option linter.unusedSimpArgs false
namespace Go.Proofs.Ytdnjdbafffifeaa
open Go.ChangeShapes Go.WideShapes Go.ChangeAt Go.RowKit Go.Joins Go.Deep

section
variable {H : Type} {enc : TypeId × Value → H} {W : World} {fuel : Nat} {cs : List Value} {x : DataW H × List MemPlace}
theorem two_parts {a b : List Value} {n : Nat} (hl : cs.length = n + n) (ha : (cs.drop 0).take n = a) (hb : (cs.drop n).take n = b) : cs = a ++ b := by
  subst ha; subst hb
  rw [List.drop_zero, List.take_of_length_le (l := cs.drop n) (by rw [List.length_drop]; omega), List.take_append_drop]
set_option maxRecDepth 100000 in
theorem cells_driver (h : TrodC enc W fuel 35 cs x) : ∃ d : DriverD, DriverIs W cs d ∧ d.fits := by
  obtain ⟨hl, hf⟩ := field Try.underlying35 h
  replace hl : cs.length = 22 := hl.trans (by kernel_rfl)
  have k : Try.prog.cellsOf 33 = 18 := by kernel_rfl
  obtain ⟨_, _, t0⟩ := hf 0 _ rfl
  obtain ⟨a, ha, fa⟩ := cells_portV t0
  have c0 : cs.drop 0 = (cs.drop 0).take 18 ++ cs.drop 18 := cut 18 rfl rfl
  obtain ⟨_, _, t1⟩ := hf 1 _ rfl
  obtain ⟨IA, ni, ci, inn, e1, hi, _, i1, i2⟩ := cells_ints t1
  have c1 : cs.drop 18 = [.slice IA ni ci] ++ cs.drop 19 := cut 1 (by kernel_rfl) e1
  obtain ⟨_, _, t2⟩ := hf 2 _ rfl
  obtain ⟨OA, no, co, out, e2, ho, _, o1, o2⟩ := cells_ints t2
  have c2 : cs.drop 19 = [.slice OA no co] ++ cs.drop 20 := cut 1 (by kernel_rfl) e2
  obtain ⟨_, _, t3⟩ := hf 3 _ rfl
  obtain ⟨wr, e3, _⟩ := cells_int t3
  have c3 : cs.drop 20 = [.int .i64 wr] ++ cs.drop 21 := cut 1 (by kernel_rfl) e3
  obtain ⟨_, _, t4⟩ := hf 4 _ rfl
  obtain ⟨lo, e4, _⟩ := cells_int t4
  have c4 : cs.drop 21 = [.int .i64 lo] ++ cs.drop 22 := cut 1 (by kernel_rfl) e4
  have z : cs.drop 22 = [] := List.drop_eq_nil_of_le (by omega)
  have hp : PortIs W ((cs.drop 0).take 18) a := by rw [← k]; exact ha
  refine ⟨⟨a, inn, out, wr, lo⟩, ⟨(cs.drop 0).take 18, IA, OA, ni, ci, no, co, ?_, hp, hi, ho⟩, fa, ?_, ?_⟩
  · rw [c1, c2, c3, c4, z, List.drop_zero] at c0
    exact c0
  · have := hi.len
    show inn.length ≤ maxLen
    omega
  · have := ho.len
    show out.length ≤ maxLen
    omega
set_option maxRecDepth 100000 in
theorem open_driver {H : Type} {enc : TypeId × Value → H} {W : World} {r : Reach} {b0 : Nat} {v : Value} {d : DataW H} {ps : List MemPlace}
    (hv : Value.okWide Try.prog W r b0 35 v) (h : DataW.Trod enc Try.prog W 0 (fun _ => true) true 35 v d ps) :
    ∃ (cs : List Value) (d : DriverD), v = .agg cs.toArray ∧ DriverIs W cs d ∧ d.fits := by
  obtain ⟨cs, rfl, _⟩ := okWide_struct Try.underlying35 hv
  obtain ⟨fuel, hf⟩ := h
  obtain ⟨d, hd⟩ := cells_driver hf
  exact ⟨cs.toList, d, by simp, hd⟩
set_option maxRecDepth 100000 in
theorem cells_link (h : TrodC enc W fuel 37 cs x) : ∃ d : LinkD, LinkIs W cs d ∧ d.fits := by
  obtain ⟨hl, hf⟩ := field Try.underlying37 h
  replace hl : cs.length = 22 + 22 := hl.trans (by kernel_rfl)
  have k : Try.prog.cellsOf 35 = 22 := by kernel_rfl
  obtain ⟨_, _, t0⟩ := hf 0 _ rfl
  obtain ⟨_, _, t1⟩ := hf 1 _ rfl
  obtain ⟨a, ha, fa⟩ := cells_driver t0
  obtain ⟨b, hb, fb⟩ := cells_driver t1
  have ha2 : DriverIs W ((cs.drop 0).take (Try.prog.cellsOf 35)) a := ha
  have hb2 : DriverIs W ((cs.drop 22).take (Try.prog.cellsOf 35)) b := hb
  rw [k] at ha2 hb2
  exact ⟨⟨a, b⟩, ⟨_, _, two_parts hl rfl rfl, ha2, hb2⟩, fa, fb⟩
set_option maxRecDepth 100000 in
theorem open_link {H : Type} {enc : TypeId × Value → H} {W : World} {r : Reach} {b0 : Nat} {v : Value} {d : DataW H} {ps : List MemPlace}
    (hv : Value.okWide Try.prog W r b0 37 v) (h : DataW.Trod enc Try.prog W 0 (fun _ => true) true 37 v d ps) :
    ∃ (cs : List Value) (d : LinkD), v = .agg cs.toArray ∧ LinkIs W cs d ∧ d.fits := by
  obtain ⟨cs, rfl, _⟩ := okWide_struct Try.underlying37 hv
  obtain ⟨fuel, hf⟩ := h
  obtain ⟨d, hd⟩ := cells_link hf
  exact ⟨cs.toList, d, by simp, hd⟩
end
end Go.Proofs.Ytdnjdbafffifeaa
