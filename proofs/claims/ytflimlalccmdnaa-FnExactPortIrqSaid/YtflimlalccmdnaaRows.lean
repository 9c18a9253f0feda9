/-
  No cell of these rows narrows 'for every input' (looked for: loops, veiled, ifaces, maps, wideKeys, modest, calm, conditions, laid).
  DERIVED. THE GIVEN ROWS OF THIS SEAT. 5 by the template 'for every input the law returns true; each argument reads behind the call as it read before'; 0 by the template 'total and deterministic' (their statements: YtflimlalccmdnaaTotals.lean).
  GIVEN WITH THE SEED: the statements are not yours to turn. If you find one false, say at which input.
  Laid BY PROGRAM, IN A SANDBOX (cutbox-rows.mjs): the forced cells as the released guide's own fill.sh prints them over the translation 2d31789f149e53ab… (all of the seat's roots in one cut). By AI agents, Wed Nov 11 2026. No macro, syntax, notation, axiom, sorry.
-/
import Derived.Test.YtflimlalccmdnaaChecked
import GoSem.Claim
import GoSem.ClaimJoined
import GoSem.ClaimMapViews
import Derived.JoinedTies
import Derived.KernelRfl
namespace Go.Proofs.Ytflimlalccmdnaa
/- THE CELL 'sum', in the pinned program and in every row, IS THE sha256 OF THE DUMP (.gsa) THAT YtflimlalccmdnaaProg.lean LOADS. Nothing in Lean hashes anything: it is a label: what it is worth is what the hold of that sum in a sandbox is worth. -/
noncomputable def Try.pinned : Pinned := { name := "ytflimlalccmdnaa", sum := "2d31789f149e53abb2d77de772975286d5c393c149c25b52c61ef11accd435b9", checked := Try.checked }
namespace Rows
def none {H : Type} : Left H := { results := [], args := [] }

/-- 'laws.FnExactPortIrq': WHATEVER THE INPUT: true; the input reads as it did. -/
def fnExactPortIrqSpec : ChangeSpec := { name := "fnExactPortIrq", fn := fun _ => fun
  | [d] => { results := [.lit (.bool true)], args := [d] }
  | _ => none }
def fnExactPortIrqRow : OpenClaim := { program := "ytflimlalccmdnaa", sum := "2d31789f149e53abb2d77de772975286d5c393c149c25b52c61ef11accd435b9", func := "loop.example/serialpair/laws.FnExactPortIrq", spec := "fnExactPortIrq", unfollowed := true, recurses := true, apart := false }
def FnExactPortIrqSaid : Prop := fnExactPortIrqRow.holds Try.pinned (OpenSpec.ofChange fnExactPortIrqSpec)

/-- ITS FALSE NEIGHBOUR: 'it returns false'. Refute it at one input. -/
def fnExactPortIrqWrong : ChangeSpec := { name := "fnExactPortIrq", fn := fun _ => fun
  | [d] => { results := [.lit (.bool false)], args := [d] }
  | _ => none }
def FnExactPortIrqWrongFalsely : Prop := fnExactPortIrqRow.holds Try.pinned (OpenSpec.ofChange fnExactPortIrqWrong)

/-- 'laws.FnIrqWhy': WHATEVER THE INPUT: true; the input reads as it did. -/
def fnIrqWhySpec : ChangeSpec := { name := "fnIrqWhy", fn := fun _ => fun
  | [d] => { results := [.lit (.bool true)], args := [d] }
  | _ => none }
def fnIrqWhyRow : OpenClaim := { program := "ytflimlalccmdnaa", sum := "2d31789f149e53abb2d77de772975286d5c393c149c25b52c61ef11accd435b9", func := "loop.example/serialpair/laws.FnIrqWhy", spec := "fnIrqWhy", unfollowed := true, recurses := true, apart := false }
def FnIrqWhySaid : Prop := fnIrqWhyRow.holds Try.pinned (OpenSpec.ofChange fnIrqWhySpec)

/-- ITS FALSE NEIGHBOUR: 'it returns false'. Refute it at one input. -/
def fnIrqWhyWrong : ChangeSpec := { name := "fnIrqWhy", fn := fun _ => fun
  | [d] => { results := [.lit (.bool false)], args := [d] }
  | _ => none }
def FnIrqWhyWrongFalsely : Prop := fnIrqWhyRow.holds Try.pinned (OpenSpec.ofChange fnIrqWhyWrong)

/-- 'laws.FnIrq': WHATEVER THE INPUT: true; the input reads as it did. -/
def fnIrqSpec : ChangeSpec := { name := "fnIrq", fn := fun _ => fun
  | [d] => { results := [.lit (.bool true)], args := [d] }
  | _ => none }
def fnIrqRow : OpenClaim := { program := "ytflimlalccmdnaa", sum := "2d31789f149e53abb2d77de772975286d5c393c149c25b52c61ef11accd435b9", func := "loop.example/serialpair/laws.FnIrq", spec := "fnIrq", unfollowed := true, recurses := true, apart := false }
def FnIrqSaid : Prop := fnIrqRow.holds Try.pinned (OpenSpec.ofChange fnIrqSpec)

/-- ITS FALSE NEIGHBOUR: 'it returns false'. Refute it at one input. -/
def fnIrqWrong : ChangeSpec := { name := "fnIrq", fn := fun _ => fun
  | [d] => { results := [.lit (.bool false)], args := [d] }
  | _ => none }
def FnIrqWrongFalsely : Prop := fnIrqRow.holds Try.pinned (OpenSpec.ofChange fnIrqWrong)

/-- 'laws.FnIrqMost': WHATEVER THE INPUT: true; the input reads as it did. -/
def fnIrqMostSpec : ChangeSpec := { name := "fnIrqMost", fn := fun _ => fun
  | [d] => { results := [.lit (.bool true)], args := [d] }
  | _ => none }
def fnIrqMostRow : OpenClaim := { program := "ytflimlalccmdnaa", sum := "2d31789f149e53abb2d77de772975286d5c393c149c25b52c61ef11accd435b9", func := "loop.example/serialpair/laws.FnIrqMost", spec := "fnIrqMost", unfollowed := true, recurses := true, apart := false }
def FnIrqMostSaid : Prop := fnIrqMostRow.holds Try.pinned (OpenSpec.ofChange fnIrqMostSpec)

/-- ITS FALSE NEIGHBOUR: 'it returns false'. Refute it at one input. -/
def fnIrqMostWrong : ChangeSpec := { name := "fnIrqMost", fn := fun _ => fun
  | [d] => { results := [.lit (.bool false)], args := [d] }
  | _ => none }
def FnIrqMostWrongFalsely : Prop := fnIrqMostRow.holds Try.pinned (OpenSpec.ofChange fnIrqMostWrong)

/-- 'laws.FnIrqNext': WHATEVER THE INPUT: true; the input reads as it did. -/
def fnIrqNextSpec : ChangeSpec := { name := "fnIrqNext", fn := fun _ => fun
  | [d] => { results := [.lit (.bool true)], args := [d] }
  | _ => none }
def fnIrqNextRow : OpenClaim := { program := "ytflimlalccmdnaa", sum := "2d31789f149e53abb2d77de772975286d5c393c149c25b52c61ef11accd435b9", func := "loop.example/serialpair/laws.FnIrqNext", spec := "fnIrqNext", unfollowed := true, recurses := true, apart := false }
def FnIrqNextSaid : Prop := fnIrqNextRow.holds Try.pinned (OpenSpec.ofChange fnIrqNextSpec)

/-- ITS FALSE NEIGHBOUR: 'it returns false'. Refute it at one input. -/
def fnIrqNextWrong : ChangeSpec := { name := "fnIrqNext", fn := fun _ => fun
  | [d] => { results := [.lit (.bool false)], args := [d] }
  | _ => none }
def FnIrqNextWrongFalsely : Prop := fnIrqNextRow.holds Try.pinned (OpenSpec.ofChange fnIrqNextWrong)

/- THE SECOND FORM. 'bulk': how many values and letters a reading holds, each counted each time it is reached (what is shared counts as often as it is met; a slice's spare places count too). A statement '..UptoSaid' is the law's where the arguments, and the package variables that the reading takes, are together of bulk at most 1048576: NARROWER than '..Said'. Prove '..Said' where nothing that the law and all that it calls make is longer than what came in: it says more and counts as full. Else prove '..UptoSaid'. A law counts once. -/
mutual
def uptoBulk {H : Type} : DataW H → Nat
  | .lit (.string bytes) => bytes.length + 1
  | .lit _ => 1
  | .nil => 1
  | .ptr d => uptoBulk d + 1
  | .slice elems spare => uptoBulkAll elems + uptoBulkAll spare + 1
  | .agg parts => uptoBulkAll parts + 1
  | .iface _ d => uptoBulk d + 1
  | .map entries => uptoBulkEntries entries + 1
  | .held _ => 1
def uptoBulkAll {H : Type} : List (DataW H) → Nat
  | [] => 0
  | d :: r => uptoBulk d + uptoBulkAll r
def uptoBulkEntries {H : Type} : List (Lit × DataW H) → Nat
  | [] => 0
  | x :: r => uptoBulkEntry x + uptoBulkEntries r
def uptoBulkEntry {H : Type} : Lit × DataW H → Nat
  | (.string bytes, d) => bytes.length + uptoBulk d + 1
  | (_, d) => uptoBulk d + 1
 end
def uptoSmall : (H : Type) → List (DataW H) → Bool := fun _ ds => decide (uptoBulkAll ds ≤ 1048576)
def OpenSpec.upto (s : _root_.Go.ChangeSpec) : _root_.Go.OpenSpec := { _root_.Go.OpenSpec.ofChange s with cond := some uptoSmall }

/-- 'laws.FnExactPortIrq', WHERE WHAT IT READS IS OF BULK AT MOST 1048576: true; the input reads as it did. -/
def fnExactPortIrqUptoRow : OpenClaim := { program := "ytflimlalccmdnaa", sum := "2d31789f149e53abb2d77de772975286d5c393c149c25b52c61ef11accd435b9", func := "loop.example/serialpair/laws.FnExactPortIrq", spec := "fnExactPortIrq", unfollowed := true, recurses := true, apart := false, narrowed := true }
def FnExactPortIrqUptoSaid : Prop := fnExactPortIrqUptoRow.holds Try.pinned (OpenSpec.upto fnExactPortIrqSpec)

/-- 'laws.FnIrqWhy', WHERE WHAT IT READS IS OF BULK AT MOST 1048576: true; the input reads as it did. -/
def fnIrqWhyUptoRow : OpenClaim := { program := "ytflimlalccmdnaa", sum := "2d31789f149e53abb2d77de772975286d5c393c149c25b52c61ef11accd435b9", func := "loop.example/serialpair/laws.FnIrqWhy", spec := "fnIrqWhy", unfollowed := true, recurses := true, apart := false, narrowed := true }
def FnIrqWhyUptoSaid : Prop := fnIrqWhyUptoRow.holds Try.pinned (OpenSpec.upto fnIrqWhySpec)

/-- 'laws.FnIrq', WHERE WHAT IT READS IS OF BULK AT MOST 1048576: true; the input reads as it did. -/
def fnIrqUptoRow : OpenClaim := { program := "ytflimlalccmdnaa", sum := "2d31789f149e53abb2d77de772975286d5c393c149c25b52c61ef11accd435b9", func := "loop.example/serialpair/laws.FnIrq", spec := "fnIrq", unfollowed := true, recurses := true, apart := false, narrowed := true }
def FnIrqUptoSaid : Prop := fnIrqUptoRow.holds Try.pinned (OpenSpec.upto fnIrqSpec)

/-- 'laws.FnIrqMost', WHERE WHAT IT READS IS OF BULK AT MOST 1048576: true; the input reads as it did. -/
def fnIrqMostUptoRow : OpenClaim := { program := "ytflimlalccmdnaa", sum := "2d31789f149e53abb2d77de772975286d5c393c149c25b52c61ef11accd435b9", func := "loop.example/serialpair/laws.FnIrqMost", spec := "fnIrqMost", unfollowed := true, recurses := true, apart := false, narrowed := true }
def FnIrqMostUptoSaid : Prop := fnIrqMostUptoRow.holds Try.pinned (OpenSpec.upto fnIrqMostSpec)

/-- 'laws.FnIrqNext', WHERE WHAT IT READS IS OF BULK AT MOST 1048576: true; the input reads as it did. -/
def fnIrqNextUptoRow : OpenClaim := { program := "ytflimlalccmdnaa", sum := "2d31789f149e53abb2d77de772975286d5c393c149c25b52c61ef11accd435b9", func := "loop.example/serialpair/laws.FnIrqNext", spec := "fnIrqNext", unfollowed := true, recurses := true, apart := false, narrowed := true }
def FnIrqNextUptoSaid : Prop := fnIrqNextUptoRow.holds Try.pinned (OpenSpec.upto fnIrqNextSpec)

end Rows
end Go.Proofs.Ytflimlalccmdnaa
