/-
  No cell of these rows narrows 'for every input' (looked for: loops, veiled, ifaces, maps, wideKeys, modest, calm, conditions, laid).
  DERIVED. THE GIVEN ROWS OF THIS SEAT. 9 by the template 'for every input the law returns true; each argument reads behind the call as it read before'; 0 by the template 'total and deterministic' (their statements: YtgnoceofabkfcaaTotals.lean).
  GIVEN WITH THE SEED: the statements are not yours to turn. If you find one false, say at which input.
  Laid BY PROGRAM, IN A SANDBOX (cutbox-rows.mjs): the forced cells as the released guide's own fill.sh prints them over the translation 6220b71a0f439659… (all of the seat's roots in one cut). By AI agents, Wed Nov 11 2026. No macro, syntax, notation, axiom, sorry.
-/
import Derived.Test.YtgnoceofabkfcaaChecked
import GoSem.Claim
import GoSem.ClaimJoined
import GoSem.ClaimMapViews
import Derived.JoinedTies
import Derived.KernelRfl
namespace Go.Proofs.Ytgnoceofabkfcaa
/- THE CELL 'sum', in the pinned program and in every row, IS THE sha256 OF THE DUMP (.gsa) THAT YtgnoceofabkfcaaProg.lean LOADS. Nothing in Lean hashes anything: it is a label: what it is worth is what the hold of that sum in a sandbox is worth. -/
noncomputable def Try.pinned : Pinned := { name := "ytgnoceofabkfcaa", sum := "6220b71a0f439659a2568bd84bbd4c44c18fb631ae71ccf13a5e537f41f98e5c", checked := Try.checked }
namespace Rows
def none {H : Type} : Left H := { results := [], args := [] }

/-- 'laws.FnExactFlowValid': WHATEVER THE INPUT: true; the input reads as it did. -/
def fnExactFlowValidSpec : ChangeSpec := { name := "fnExactFlowValid", fn := fun _ => fun
  | [d] => { results := [.lit (.bool true)], args := [d] }
  | _ => none }
def fnExactFlowValidRow : OpenClaim := { program := "ytgnoceofabkfcaa", sum := "6220b71a0f439659a2568bd84bbd4c44c18fb631ae71ccf13a5e537f41f98e5c", func := "loop.example/serialpair/laws.FnExactFlowValid", spec := "fnExactFlowValid", apart := false }
def FnExactFlowValidSaid : Prop := fnExactFlowValidRow.holds Try.pinned (OpenSpec.ofChange fnExactFlowValidSpec)

/-- ITS FALSE NEIGHBOUR: 'it returns false'. Refute it at one input. -/
def fnExactFlowValidWrong : ChangeSpec := { name := "fnExactFlowValid", fn := fun _ => fun
  | [d] => { results := [.lit (.bool false)], args := [d] }
  | _ => none }
def FnExactFlowValidWrongFalsely : Prop := fnExactFlowValidRow.holds Try.pinned (OpenSpec.ofChange fnExactFlowValidWrong)

/-- 'laws.FnExactFlowNext': WHATEVER THE INPUT: true; the input reads as it did. -/
def fnExactFlowNextSpec : ChangeSpec := { name := "fnExactFlowNext", fn := fun _ => fun
  | [d1, d2, d3] => { results := [.lit (.bool true)], args := [d1, d2, d3] }
  | _ => none }
def fnExactFlowNextRow : OpenClaim := { program := "ytgnoceofabkfcaa", sum := "6220b71a0f439659a2568bd84bbd4c44c18fb631ae71ccf13a5e537f41f98e5c", func := "loop.example/serialpair/laws.FnExactFlowNext", spec := "fnExactFlowNext", unfollowed := true, recurses := true, apart := false }
def FnExactFlowNextSaid : Prop := fnExactFlowNextRow.holds Try.pinned (OpenSpec.ofChange fnExactFlowNextSpec)

/-- ITS FALSE NEIGHBOUR: 'it returns false'. Refute it at one input. -/
def fnExactFlowNextWrong : ChangeSpec := { name := "fnExactFlowNext", fn := fun _ => fun
  | [d1, d2, d3] => { results := [.lit (.bool false)], args := [d1, d2, d3] }
  | _ => none }
def FnExactFlowNextWrongFalsely : Prop := fnExactFlowNextRow.holds Try.pinned (OpenSpec.ofChange fnExactFlowNextWrong)

/-- 'laws.FnFlowPart': WHATEVER THE INPUT: true; the input reads as it did. -/
def fnFlowPartSpec : ChangeSpec := { name := "fnFlowPart", fn := fun _ => fun
  | [d] => { results := [.lit (.bool true)], args := [d] }
  | _ => none }
def fnFlowPartRow : OpenClaim := { program := "ytgnoceofabkfcaa", sum := "6220b71a0f439659a2568bd84bbd4c44c18fb631ae71ccf13a5e537f41f98e5c", func := "loop.example/serialpair/laws.FnFlowPart", spec := "fnFlowPart", apart := false }
def FnFlowPartSaid : Prop := fnFlowPartRow.holds Try.pinned (OpenSpec.ofChange fnFlowPartSpec)

/-- ITS FALSE NEIGHBOUR: 'it returns false'. Refute it at one input. -/
def fnFlowPartWrong : ChangeSpec := { name := "fnFlowPart", fn := fun _ => fun
  | [d] => { results := [.lit (.bool false)], args := [d] }
  | _ => none }
def FnFlowPartWrongFalsely : Prop := fnFlowPartRow.holds Try.pinned (OpenSpec.ofChange fnFlowPartWrong)

/-- 'laws.FnFlow': WHATEVER THE INPUT: true; the input reads as it did. -/
def fnFlowSpec : ChangeSpec := { name := "fnFlow", fn := fun _ => fun
  | [d] => { results := [.lit (.bool true)], args := [d] }
  | _ => none }
def fnFlowRow : OpenClaim := { program := "ytgnoceofabkfcaa", sum := "6220b71a0f439659a2568bd84bbd4c44c18fb631ae71ccf13a5e537f41f98e5c", func := "loop.example/serialpair/laws.FnFlow", spec := "fnFlow", unfollowed := true, recurses := true, apart := false }
def FnFlowSaid : Prop := fnFlowRow.holds Try.pinned (OpenSpec.ofChange fnFlowSpec)

/-- ITS FALSE NEIGHBOUR: 'it returns false'. Refute it at one input. -/
def fnFlowWrong : ChangeSpec := { name := "fnFlow", fn := fun _ => fun
  | [d] => { results := [.lit (.bool false)], args := [d] }
  | _ => none }
def FnFlowWrongFalsely : Prop := fnFlowRow.holds Try.pinned (OpenSpec.ofChange fnFlowWrong)

/-- 'laws.FnFlowMore': WHATEVER THE INPUT: true; the input reads as it did. -/
def fnFlowMoreSpec : ChangeSpec := { name := "fnFlowMore", fn := fun _ => fun
  | [d1, d2] => { results := [.lit (.bool true)], args := [d1, d2] }
  | _ => none }
def fnFlowMoreRow : OpenClaim := { program := "ytgnoceofabkfcaa", sum := "6220b71a0f439659a2568bd84bbd4c44c18fb631ae71ccf13a5e537f41f98e5c", func := "loop.example/serialpair/laws.FnFlowMore", spec := "fnFlowMore", unfollowed := true, recurses := true, apart := false }
def FnFlowMoreSaid : Prop := fnFlowMoreRow.holds Try.pinned (OpenSpec.ofChange fnFlowMoreSpec)

/-- ITS FALSE NEIGHBOUR: 'it returns false'. Refute it at one input. -/
def fnFlowMoreWrong : ChangeSpec := { name := "fnFlowMore", fn := fun _ => fun
  | [d1, d2] => { results := [.lit (.bool false)], args := [d1, d2] }
  | _ => none }
def FnFlowMoreWrongFalsely : Prop := fnFlowMoreRow.holds Try.pinned (OpenSpec.ofChange fnFlowMoreWrong)

/-- 'laws.FnFlowTwice': WHATEVER THE INPUT: true; the input reads as it did. -/
def fnFlowTwiceSpec : ChangeSpec := { name := "fnFlowTwice", fn := fun _ => fun
  | [d] => { results := [.lit (.bool true)], args := [d] }
  | _ => none }
def fnFlowTwiceRow : OpenClaim := { program := "ytgnoceofabkfcaa", sum := "6220b71a0f439659a2568bd84bbd4c44c18fb631ae71ccf13a5e537f41f98e5c", func := "loop.example/serialpair/laws.FnFlowTwice", spec := "fnFlowTwice", unfollowed := true, recurses := true, apart := false }
def FnFlowTwiceSaid : Prop := fnFlowTwiceRow.holds Try.pinned (OpenSpec.ofChange fnFlowTwiceSpec)

/-- ITS FALSE NEIGHBOUR: 'it returns false'. Refute it at one input. -/
def fnFlowTwiceWrong : ChangeSpec := { name := "fnFlowTwice", fn := fun _ => fun
  | [d] => { results := [.lit (.bool false)], args := [d] }
  | _ => none }
def FnFlowTwiceWrongFalsely : Prop := fnFlowTwiceRow.holds Try.pinned (OpenSpec.ofChange fnFlowTwiceWrong)

/-- 'laws.FnExactFlowRun': WHATEVER THE INPUT: true; the input reads as it did. -/
def fnExactFlowRunSpec : ChangeSpec := { name := "fnExactFlowRun", fn := fun _ => fun
  | [d1, d2, d3] => { results := [.lit (.bool true)], args := [d1, d2, d3] }
  | _ => none }
def fnExactFlowRunRow : OpenClaim := { program := "ytgnoceofabkfcaa", sum := "6220b71a0f439659a2568bd84bbd4c44c18fb631ae71ccf13a5e537f41f98e5c", func := "loop.example/serialpair/laws.FnExactFlowRun", spec := "fnExactFlowRun", unfollowed := true, recurses := true, apart := false }
def FnExactFlowRunSaid : Prop := fnExactFlowRunRow.holds Try.pinned (OpenSpec.ofChange fnExactFlowRunSpec)

/-- ITS FALSE NEIGHBOUR: 'it returns false'. Refute it at one input. -/
def fnExactFlowRunWrong : ChangeSpec := { name := "fnExactFlowRun", fn := fun _ => fun
  | [d1, d2, d3] => { results := [.lit (.bool false)], args := [d1, d2, d3] }
  | _ => none }
def FnExactFlowRunWrongFalsely : Prop := fnExactFlowRunRow.holds Try.pinned (OpenSpec.ofChange fnExactFlowRunWrong)

/-- 'laws.FnFlowRun': WHATEVER THE INPUT: true; the input reads as it did. -/
def fnFlowRunSpec : ChangeSpec := { name := "fnFlowRun", fn := fun _ => fun
  | [d] => { results := [.lit (.bool true)], args := [d] }
  | _ => none }
def fnFlowRunRow : OpenClaim := { program := "ytgnoceofabkfcaa", sum := "6220b71a0f439659a2568bd84bbd4c44c18fb631ae71ccf13a5e537f41f98e5c", func := "loop.example/serialpair/laws.FnFlowRun", spec := "fnFlowRun", unfollowed := true, recurses := true, apart := false }
def FnFlowRunSaid : Prop := fnFlowRunRow.holds Try.pinned (OpenSpec.ofChange fnFlowRunSpec)

/-- ITS FALSE NEIGHBOUR: 'it returns false'. Refute it at one input. -/
def fnFlowRunWrong : ChangeSpec := { name := "fnFlowRun", fn := fun _ => fun
  | [d] => { results := [.lit (.bool false)], args := [d] }
  | _ => none }
def FnFlowRunWrongFalsely : Prop := fnFlowRunRow.holds Try.pinned (OpenSpec.ofChange fnFlowRunWrong)

/-- 'laws.FnFlowFew': WHATEVER THE INPUT: true; the input reads as it did. -/
def fnFlowFewSpec : ChangeSpec := { name := "fnFlowFew", fn := fun _ => fun
  | [d] => { results := [.lit (.bool true)], args := [d] }
  | _ => none }
def fnFlowFewRow : OpenClaim := { program := "ytgnoceofabkfcaa", sum := "6220b71a0f439659a2568bd84bbd4c44c18fb631ae71ccf13a5e537f41f98e5c", func := "loop.example/serialpair/laws.FnFlowFew", spec := "fnFlowFew", unfollowed := true, recurses := true, apart := false }
def FnFlowFewSaid : Prop := fnFlowFewRow.holds Try.pinned (OpenSpec.ofChange fnFlowFewSpec)

/-- ITS FALSE NEIGHBOUR: 'it returns false'. Refute it at one input. -/
def fnFlowFewWrong : ChangeSpec := { name := "fnFlowFew", fn := fun _ => fun
  | [d] => { results := [.lit (.bool false)], args := [d] }
  | _ => none }
def FnFlowFewWrongFalsely : Prop := fnFlowFewRow.holds Try.pinned (OpenSpec.ofChange fnFlowFewWrong)

/- THE SECOND FORM. 'bulk': how many values and letters a reading holds, each counted each time it is reached (what is shared counts as often as it is met; a slice's spare places count too). A statement '..UptoSaid' is the law's where the arguments, and the package variables that the reading takes, are together of bulk at most 1048576: NARROWER than '..Said'. Prove '..Said' where nothing that the law and all that it calls make is longer than what came in: it says more and counts as full. Else prove '..UptoSaid'. A law counts once. -/
mutual
def uptoBulk {H : Type} : DataW H → Nat
  | .lit (.string bytes) => bytes.length + 1
  | .lit _ => 1
  | .nil => 1
  | .ptr d => uptoBulk d + 1
  | .slice elems spare => uptoBulkAll elems + uptoBulkAll spare + 1
  | .agg parts => uptoBulkAll parts + 1
  | .iface _ d => uptoBulk d + 1
  | .map entries => uptoBulkEntries entries + 1
  | .held _ => 1
def uptoBulkAll {H : Type} : List (DataW H) → Nat
  | [] => 0
  | d :: r => uptoBulk d + uptoBulkAll r
def uptoBulkEntries {H : Type} : List (Lit × DataW H) → Nat
  | [] => 0
  | x :: r => uptoBulkEntry x + uptoBulkEntries r
def uptoBulkEntry {H : Type} : Lit × DataW H → Nat
  | (.string bytes, d) => bytes.length + uptoBulk d + 1
  | (_, d) => uptoBulk d + 1
 end
def uptoSmall : (H : Type) → List (DataW H) → Bool := fun _ ds => decide (uptoBulkAll ds ≤ 1048576)
def OpenSpec.upto (s : _root_.Go.ChangeSpec) : _root_.Go.OpenSpec := { _root_.Go.OpenSpec.ofChange s with cond := some uptoSmall }

/-- 'laws.FnExactFlowValid', WHERE WHAT IT READS IS OF BULK AT MOST 1048576: true; the input reads as it did. -/
def fnExactFlowValidUptoRow : OpenClaim := { program := "ytgnoceofabkfcaa", sum := "6220b71a0f439659a2568bd84bbd4c44c18fb631ae71ccf13a5e537f41f98e5c", func := "loop.example/serialpair/laws.FnExactFlowValid", spec := "fnExactFlowValid", apart := false, narrowed := true }
def FnExactFlowValidUptoSaid : Prop := fnExactFlowValidUptoRow.holds Try.pinned (OpenSpec.upto fnExactFlowValidSpec)

/-- 'laws.FnExactFlowNext', WHERE WHAT IT READS IS OF BULK AT MOST 1048576: true; the input reads as it did. -/
def fnExactFlowNextUptoRow : OpenClaim := { program := "ytgnoceofabkfcaa", sum := "6220b71a0f439659a2568bd84bbd4c44c18fb631ae71ccf13a5e537f41f98e5c", func := "loop.example/serialpair/laws.FnExactFlowNext", spec := "fnExactFlowNext", unfollowed := true, recurses := true, apart := false, narrowed := true }
def FnExactFlowNextUptoSaid : Prop := fnExactFlowNextUptoRow.holds Try.pinned (OpenSpec.upto fnExactFlowNextSpec)

/-- 'laws.FnFlowPart', WHERE WHAT IT READS IS OF BULK AT MOST 1048576: true; the input reads as it did. -/
def fnFlowPartUptoRow : OpenClaim := { program := "ytgnoceofabkfcaa", sum := "6220b71a0f439659a2568bd84bbd4c44c18fb631ae71ccf13a5e537f41f98e5c", func := "loop.example/serialpair/laws.FnFlowPart", spec := "fnFlowPart", apart := false, narrowed := true }
def FnFlowPartUptoSaid : Prop := fnFlowPartUptoRow.holds Try.pinned (OpenSpec.upto fnFlowPartSpec)

/-- 'laws.FnFlow', WHERE WHAT IT READS IS OF BULK AT MOST 1048576: true; the input reads as it did. -/
def fnFlowUptoRow : OpenClaim := { program := "ytgnoceofabkfcaa", sum := "6220b71a0f439659a2568bd84bbd4c44c18fb631ae71ccf13a5e537f41f98e5c", func := "loop.example/serialpair/laws.FnFlow", spec := "fnFlow", unfollowed := true, recurses := true, apart := false, narrowed := true }
def FnFlowUptoSaid : Prop := fnFlowUptoRow.holds Try.pinned (OpenSpec.upto fnFlowSpec)

/-- 'laws.FnFlowMore', WHERE WHAT IT READS IS OF BULK AT MOST 1048576: true; the input reads as it did. -/
def fnFlowMoreUptoRow : OpenClaim := { program := "ytgnoceofabkfcaa", sum := "6220b71a0f439659a2568bd84bbd4c44c18fb631ae71ccf13a5e537f41f98e5c", func := "loop.example/serialpair/laws.FnFlowMore", spec := "fnFlowMore", unfollowed := true, recurses := true, apart := false, narrowed := true }
def FnFlowMoreUptoSaid : Prop := fnFlowMoreUptoRow.holds Try.pinned (OpenSpec.upto fnFlowMoreSpec)

/-- 'laws.FnFlowTwice', WHERE WHAT IT READS IS OF BULK AT MOST 1048576: true; the input reads as it did. -/
def fnFlowTwiceUptoRow : OpenClaim := { program := "ytgnoceofabkfcaa", sum := "6220b71a0f439659a2568bd84bbd4c44c18fb631ae71ccf13a5e537f41f98e5c", func := "loop.example/serialpair/laws.FnFlowTwice", spec := "fnFlowTwice", unfollowed := true, recurses := true, apart := false, narrowed := true }
def FnFlowTwiceUptoSaid : Prop := fnFlowTwiceUptoRow.holds Try.pinned (OpenSpec.upto fnFlowTwiceSpec)

/-- 'laws.FnExactFlowRun', WHERE WHAT IT READS IS OF BULK AT MOST 1048576: true; the input reads as it did. -/
def fnExactFlowRunUptoRow : OpenClaim := { program := "ytgnoceofabkfcaa", sum := "6220b71a0f439659a2568bd84bbd4c44c18fb631ae71ccf13a5e537f41f98e5c", func := "loop.example/serialpair/laws.FnExactFlowRun", spec := "fnExactFlowRun", unfollowed := true, recurses := true, apart := false, narrowed := true }
def FnExactFlowRunUptoSaid : Prop := fnExactFlowRunUptoRow.holds Try.pinned (OpenSpec.upto fnExactFlowRunSpec)

/-- 'laws.FnFlowRun', WHERE WHAT IT READS IS OF BULK AT MOST 1048576: true; the input reads as it did. -/
def fnFlowRunUptoRow : OpenClaim := { program := "ytgnoceofabkfcaa", sum := "6220b71a0f439659a2568bd84bbd4c44c18fb631ae71ccf13a5e537f41f98e5c", func := "loop.example/serialpair/laws.FnFlowRun", spec := "fnFlowRun", unfollowed := true, recurses := true, apart := false, narrowed := true }
def FnFlowRunUptoSaid : Prop := fnFlowRunUptoRow.holds Try.pinned (OpenSpec.upto fnFlowRunSpec)

/-- 'laws.FnFlowFew', WHERE WHAT IT READS IS OF BULK AT MOST 1048576: true; the input reads as it did. -/
def fnFlowFewUptoRow : OpenClaim := { program := "ytgnoceofabkfcaa", sum := "6220b71a0f439659a2568bd84bbd4c44c18fb631ae71ccf13a5e537f41f98e5c", func := "loop.example/serialpair/laws.FnFlowFew", spec := "fnFlowFew", unfollowed := true, recurses := true, apart := false, narrowed := true }
def FnFlowFewUptoSaid : Prop := fnFlowFewUptoRow.holds Try.pinned (OpenSpec.upto fnFlowFewSpec)

end Rows
end Go.Proofs.Ytgnoceofabkfcaa
