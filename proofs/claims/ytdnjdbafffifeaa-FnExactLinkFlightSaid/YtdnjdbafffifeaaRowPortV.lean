/-
  Ports (laws.Port) as they come in, with their contents.
-/
import Derived.Test.YtdnjdbafffifeaaRowPort
import Derived.Test.YtdnjdbafffifeaaPortV
set_option linter.unusedVariables false
set_option linter.unusedSimpArgs false
namespace Go.Proofs.Ytdnjdbafffifeaa
open Go.ChangeShapes Go.WideShapes Go.ChangeAt Go.RowKit Go.Joins Go.Deep

theorem cells_portV {H : Type} {enc : TypeId × Value → H} {W : World} {fuel : Nat} {cs : List Value} {x : DataW H × List MemPlace} (h : TrodC enc W fuel 33 cs x) : ∃ d : PortD, PortIs W cs d ∧ d.fits := by
  obtain ⟨b, p, s, en, ct, rr, rt, ra, sr, sh, sl, rl, ma, mb, mc, md, rn, sn, gs, xs, RA, SA, rc, sc, e, hg, h1, h2, hx, h3, h4⟩ := cells_port h
  refine ⟨⟨b, p, s, en, ct, rr, rt, ra, sr, sh, sl, rl, ma, mb, mc, md, gs, xs⟩, ⟨RA, SA, rn, sn, rc, sc, e, hg, hx⟩, ?_, ?_⟩
  · have := hg.len
    show gs.length ≤ maxLen
    omega
  · have := hx.len
    show xs.length ≤ maxLen
    omega
set_option maxRecDepth 100000 in
theorem open_portV {H : Type} {enc : TypeId × Value → H} {W : World} {r : Reach} {b0 : Nat} {v : Value} {d : DataW H} {ps : List MemPlace}
    (hv : Value.okWide Try.prog W r b0 33 v) (h : DataW.Trod enc Try.prog W 0 (fun _ => true) true 33 v d ps) :
    ∃ (cs : List Value) (d : PortD), v = .agg cs.toArray ∧ PortIs W cs d ∧ d.fits := by
  obtain ⟨cs, rfl, _⟩ := okWide_struct Try.underlying33 hv
  obtain ⟨fuel, hf⟩ := h
  obtain ⟨d, hd⟩ := cells_portV hf
  exact ⟨cs.toList, d, by simp, hd⟩
end Go.Proofs.Ytdnjdbafffifeaa
