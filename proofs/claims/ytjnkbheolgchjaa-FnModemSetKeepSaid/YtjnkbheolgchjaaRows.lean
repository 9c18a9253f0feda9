/-
  No cell of these rows narrows 'for every input' (looked for: loops, veiled, ifaces, maps, wideKeys, modest, calm, conditions, laid).
  DERIVED. THE GIVEN ROWS OF THIS SEAT. 8 by the template 'for every input the law returns true; each argument reads behind the call as it read before'; 0 by the template 'total and deterministic' (their statements: YtjnkbheolgchjaaTotals.lean).
  GIVEN WITH THE SEED: the statements are not yours to turn. If you find one false, say at which input.
  Laid BY PROGRAM, IN A SANDBOX (cutbox-rows.mjs): the forced cells as the released guide's own fill.sh prints them over the translation b0a015c65fa067ea… (all of the seat's roots in one cut). By AI agents, Wed Nov 11 2026. No macro, syntax, notation, axiom, sorry.
-/
import Derived.Test.YtjnkbheolgchjaaChecked
import GoSem.Claim
import GoSem.ClaimJoined
import GoSem.ClaimMapViews
import Derived.JoinedTies
import Derived.KernelRfl
namespace Go.Proofs.Ytjnkbheolgchjaa
/- THE CELL 'sum', in the pinned program and in every row, IS THE sha256 OF THE DUMP (.gsa) THAT YtjnkbheolgchjaaProg.lean LOADS. Nothing in Lean hashes anything: it is a label: what it is worth is what the hold of that sum in a sandbox is worth. -/
noncomputable def Try.pinned : Pinned := { name := "ytjnkbheolgchjaa", sum := "b0a015c65fa067ea4cce4f97fe956b5801b5e75bf305ed24b7ae134fd8b723e6", checked := Try.checked }
namespace Rows
def none {H : Type} : Left H := { results := [], args := [] }

/-- 'laws.FnExactModemChanged': WHATEVER THE INPUT: true; the input reads as it did. -/
def fnExactModemChangedSpec : ChangeSpec := { name := "fnExactModemChanged", fn := fun _ => fun
  | [d] => { results := [.lit (.bool true)], args := [d] }
  | _ => none }
def fnExactModemChangedRow : OpenClaim := { program := "ytjnkbheolgchjaa", sum := "b0a015c65fa067ea4cce4f97fe956b5801b5e75bf305ed24b7ae134fd8b723e6", func := "loop.example/serialpair/laws.FnExactModemChanged", spec := "fnExactModemChanged", apart := false }
def FnExactModemChangedSaid : Prop := fnExactModemChangedRow.holds Try.pinned (OpenSpec.ofChange fnExactModemChangedSpec)

/-- ITS FALSE NEIGHBOUR: 'it returns false'. Refute it at one input. -/
def fnExactModemChangedWrong : ChangeSpec := { name := "fnExactModemChanged", fn := fun _ => fun
  | [d] => { results := [.lit (.bool false)], args := [d] }
  | _ => none }
def FnExactModemChangedWrongFalsely : Prop := fnExactModemChangedRow.holds Try.pinned (OpenSpec.ofChange fnExactModemChangedWrong)

/-- 'laws.FnExactModemSet': WHATEVER THE INPUT: true; the input reads as it did. -/
def fnExactModemSetSpec : ChangeSpec := { name := "fnExactModemSet", fn := fun _ => fun
  | [d1, d2, d3] => { results := [.lit (.bool true)], args := [d1, d2, d3] }
  | _ => none }
def fnExactModemSetRow : OpenClaim := { program := "ytjnkbheolgchjaa", sum := "b0a015c65fa067ea4cce4f97fe956b5801b5e75bf305ed24b7ae134fd8b723e6", func := "loop.example/serialpair/laws.FnExactModemSet", spec := "fnExactModemSet", apart := false }
def FnExactModemSetSaid : Prop := fnExactModemSetRow.holds Try.pinned (OpenSpec.ofChange fnExactModemSetSpec)

/-- ITS FALSE NEIGHBOUR: 'it returns false'. Refute it at one input. -/
def fnExactModemSetWrong : ChangeSpec := { name := "fnExactModemSet", fn := fun _ => fun
  | [d1, d2, d3] => { results := [.lit (.bool false)], args := [d1, d2, d3] }
  | _ => none }
def FnExactModemSetWrongFalsely : Prop := fnExactModemSetRow.holds Try.pinned (OpenSpec.ofChange fnExactModemSetWrong)

/-- 'laws.FnModemSet': WHATEVER THE INPUT: true; the input reads as it did. -/
def fnModemSetSpec : ChangeSpec := { name := "fnModemSet", fn := fun _ => fun
  | [d] => { results := [.lit (.bool true)], args := [d] }
  | _ => none }
def fnModemSetRow : OpenClaim := { program := "ytjnkbheolgchjaa", sum := "b0a015c65fa067ea4cce4f97fe956b5801b5e75bf305ed24b7ae134fd8b723e6", func := "loop.example/serialpair/laws.FnModemSet", spec := "fnModemSet", apart := false }
def FnModemSetSaid : Prop := fnModemSetRow.holds Try.pinned (OpenSpec.ofChange fnModemSetSpec)

/-- ITS FALSE NEIGHBOUR: 'it returns false'. Refute it at one input. -/
def fnModemSetWrong : ChangeSpec := { name := "fnModemSet", fn := fun _ => fun
  | [d] => { results := [.lit (.bool false)], args := [d] }
  | _ => none }
def FnModemSetWrongFalsely : Prop := fnModemSetRow.holds Try.pinned (OpenSpec.ofChange fnModemSetWrong)

/-- 'laws.FnModemSetKeep': WHATEVER THE INPUT: true; the input reads as it did. -/
def fnModemSetKeepSpec : ChangeSpec := { name := "fnModemSetKeep", fn := fun _ => fun
  | [d] => { results := [.lit (.bool true)], args := [d] }
  | _ => none }
def fnModemSetKeepRow : OpenClaim := { program := "ytjnkbheolgchjaa", sum := "b0a015c65fa067ea4cce4f97fe956b5801b5e75bf305ed24b7ae134fd8b723e6", func := "loop.example/serialpair/laws.FnModemSetKeep", spec := "fnModemSetKeep", apart := false }
def FnModemSetKeepSaid : Prop := fnModemSetKeepRow.holds Try.pinned (OpenSpec.ofChange fnModemSetKeepSpec)

/-- ITS FALSE NEIGHBOUR: 'it returns false'. Refute it at one input. -/
def fnModemSetKeepWrong : ChangeSpec := { name := "fnModemSetKeep", fn := fun _ => fun
  | [d] => { results := [.lit (.bool false)], args := [d] }
  | _ => none }
def FnModemSetKeepWrongFalsely : Prop := fnModemSetKeepRow.holds Try.pinned (OpenSpec.ofChange fnModemSetKeepWrong)

/-- 'laws.FnModemChanged': WHATEVER THE INPUT: true; the input reads as it did. -/
def fnModemChangedSpec : ChangeSpec := { name := "fnModemChanged", fn := fun _ => fun
  | [d] => { results := [.lit (.bool true)], args := [d] }
  | _ => none }
def fnModemChangedRow : OpenClaim := { program := "ytjnkbheolgchjaa", sum := "b0a015c65fa067ea4cce4f97fe956b5801b5e75bf305ed24b7ae134fd8b723e6", func := "loop.example/serialpair/laws.FnModemChanged", spec := "fnModemChanged", apart := false }
def FnModemChangedSaid : Prop := fnModemChangedRow.holds Try.pinned (OpenSpec.ofChange fnModemChangedSpec)

/-- ITS FALSE NEIGHBOUR: 'it returns false'. Refute it at one input. -/
def fnModemChangedWrong : ChangeSpec := { name := "fnModemChanged", fn := fun _ => fun
  | [d] => { results := [.lit (.bool false)], args := [d] }
  | _ => none }
def FnModemChangedWrongFalsely : Prop := fnModemChangedRow.holds Try.pinned (OpenSpec.ofChange fnModemChangedWrong)

/-- 'laws.FnExactModemRead': WHATEVER THE INPUT: true; the input reads as it did. -/
def fnExactModemReadSpec : ChangeSpec := { name := "fnExactModemRead", fn := fun _ => fun
  | [d] => { results := [.lit (.bool true)], args := [d] }
  | _ => none }
def fnExactModemReadRow : OpenClaim := { program := "ytjnkbheolgchjaa", sum := "b0a015c65fa067ea4cce4f97fe956b5801b5e75bf305ed24b7ae134fd8b723e6", func := "loop.example/serialpair/laws.FnExactModemRead", spec := "fnExactModemRead", apart := false }
def FnExactModemReadSaid : Prop := fnExactModemReadRow.holds Try.pinned (OpenSpec.ofChange fnExactModemReadSpec)

/-- ITS FALSE NEIGHBOUR: 'it returns false'. Refute it at one input. -/
def fnExactModemReadWrong : ChangeSpec := { name := "fnExactModemRead", fn := fun _ => fun
  | [d] => { results := [.lit (.bool false)], args := [d] }
  | _ => none }
def FnExactModemReadWrongFalsely : Prop := fnExactModemReadRow.holds Try.pinned (OpenSpec.ofChange fnExactModemReadWrong)

/-- 'laws.FnModemBits': WHATEVER THE INPUT: true; the input reads as it did. -/
def fnModemBitsSpec : ChangeSpec := { name := "fnModemBits", fn := fun _ => fun
  | [d] => { results := [.lit (.bool true)], args := [d] }
  | _ => none }
def fnModemBitsRow : OpenClaim := { program := "ytjnkbheolgchjaa", sum := "b0a015c65fa067ea4cce4f97fe956b5801b5e75bf305ed24b7ae134fd8b723e6", func := "loop.example/serialpair/laws.FnModemBits", spec := "fnModemBits", apart := false }
def FnModemBitsSaid : Prop := fnModemBitsRow.holds Try.pinned (OpenSpec.ofChange fnModemBitsSpec)

/-- ITS FALSE NEIGHBOUR: 'it returns false'. Refute it at one input. -/
def fnModemBitsWrong : ChangeSpec := { name := "fnModemBits", fn := fun _ => fun
  | [d] => { results := [.lit (.bool false)], args := [d] }
  | _ => none }
def FnModemBitsWrongFalsely : Prop := fnModemBitsRow.holds Try.pinned (OpenSpec.ofChange fnModemBitsWrong)

/-- 'laws.FnModemRead': WHATEVER THE INPUT: true; the input reads as it did. -/
def fnModemReadSpec : ChangeSpec := { name := "fnModemRead", fn := fun _ => fun
  | [d] => { results := [.lit (.bool true)], args := [d] }
  | _ => none }
def fnModemReadRow : OpenClaim := { program := "ytjnkbheolgchjaa", sum := "b0a015c65fa067ea4cce4f97fe956b5801b5e75bf305ed24b7ae134fd8b723e6", func := "loop.example/serialpair/laws.FnModemRead", spec := "fnModemRead", apart := false }
def FnModemReadSaid : Prop := fnModemReadRow.holds Try.pinned (OpenSpec.ofChange fnModemReadSpec)

/-- ITS FALSE NEIGHBOUR: 'it returns false'. Refute it at one input. -/
def fnModemReadWrong : ChangeSpec := { name := "fnModemRead", fn := fun _ => fun
  | [d] => { results := [.lit (.bool false)], args := [d] }
  | _ => none }
def FnModemReadWrongFalsely : Prop := fnModemReadRow.holds Try.pinned (OpenSpec.ofChange fnModemReadWrong)

/- THE SECOND FORM. 'bulk': how many values and letters a reading holds, each counted each time it is reached (what is shared counts as often as it is met; a slice's spare places count too). A statement '..UptoSaid' is the law's where the arguments, and the package variables that the reading takes, are together of bulk at most 1048576: NARROWER than '..Said'. Prove '..Said' where nothing that the law and all that it calls make is longer than what came in: it says more and counts as full. Else prove '..UptoSaid'. A law counts once. -/
mutual
def uptoBulk {H : Type} : DataW H → Nat
  | .lit (.string bytes) => bytes.length + 1
  | .lit _ => 1
  | .nil => 1
  | .ptr d => uptoBulk d + 1
  | .slice elems spare => uptoBulkAll elems + uptoBulkAll spare + 1
  | .agg parts => uptoBulkAll parts + 1
  | .iface _ d => uptoBulk d + 1
  | .map entries => uptoBulkEntries entries + 1
  | .held _ => 1
def uptoBulkAll {H : Type} : List (DataW H) → Nat
  | [] => 0
  | d :: r => uptoBulk d + uptoBulkAll r
def uptoBulkEntries {H : Type} : List (Lit × DataW H) → Nat
  | [] => 0
  | x :: r => uptoBulkEntry x + uptoBulkEntries r
def uptoBulkEntry {H : Type} : Lit × DataW H → Nat
  | (.string bytes, d) => bytes.length + uptoBulk d + 1
  | (_, d) => uptoBulk d + 1
 end
def uptoSmall : (H : Type) → List (DataW H) → Bool := fun _ ds => decide (uptoBulkAll ds ≤ 1048576)
def OpenSpec.upto (s : _root_.Go.ChangeSpec) : _root_.Go.OpenSpec := { _root_.Go.OpenSpec.ofChange s with cond := some uptoSmall }

/-- 'laws.FnExactModemChanged', WHERE WHAT IT READS IS OF BULK AT MOST 1048576: true; the input reads as it did. -/
def fnExactModemChangedUptoRow : OpenClaim := { program := "ytjnkbheolgchjaa", sum := "b0a015c65fa067ea4cce4f97fe956b5801b5e75bf305ed24b7ae134fd8b723e6", func := "loop.example/serialpair/laws.FnExactModemChanged", spec := "fnExactModemChanged", apart := false, narrowed := true }
def FnExactModemChangedUptoSaid : Prop := fnExactModemChangedUptoRow.holds Try.pinned (OpenSpec.upto fnExactModemChangedSpec)

/-- 'laws.FnExactModemSet', WHERE WHAT IT READS IS OF BULK AT MOST 1048576: true; the input reads as it did. -/
def fnExactModemSetUptoRow : OpenClaim := { program := "ytjnkbheolgchjaa", sum := "b0a015c65fa067ea4cce4f97fe956b5801b5e75bf305ed24b7ae134fd8b723e6", func := "loop.example/serialpair/laws.FnExactModemSet", spec := "fnExactModemSet", apart := false, narrowed := true }
def FnExactModemSetUptoSaid : Prop := fnExactModemSetUptoRow.holds Try.pinned (OpenSpec.upto fnExactModemSetSpec)

/-- 'laws.FnModemSet', WHERE WHAT IT READS IS OF BULK AT MOST 1048576: true; the input reads as it did. -/
def fnModemSetUptoRow : OpenClaim := { program := "ytjnkbheolgchjaa", sum := "b0a015c65fa067ea4cce4f97fe956b5801b5e75bf305ed24b7ae134fd8b723e6", func := "loop.example/serialpair/laws.FnModemSet", spec := "fnModemSet", apart := false, narrowed := true }
def FnModemSetUptoSaid : Prop := fnModemSetUptoRow.holds Try.pinned (OpenSpec.upto fnModemSetSpec)

/-- 'laws.FnModemSetKeep', WHERE WHAT IT READS IS OF BULK AT MOST 1048576: true; the input reads as it did. -/
def fnModemSetKeepUptoRow : OpenClaim := { program := "ytjnkbheolgchjaa", sum := "b0a015c65fa067ea4cce4f97fe956b5801b5e75bf305ed24b7ae134fd8b723e6", func := "loop.example/serialpair/laws.FnModemSetKeep", spec := "fnModemSetKeep", apart := false, narrowed := true }
def FnModemSetKeepUptoSaid : Prop := fnModemSetKeepUptoRow.holds Try.pinned (OpenSpec.upto fnModemSetKeepSpec)

/-- 'laws.FnModemChanged', WHERE WHAT IT READS IS OF BULK AT MOST 1048576: true; the input reads as it did. -/
def fnModemChangedUptoRow : OpenClaim := { program := "ytjnkbheolgchjaa", sum := "b0a015c65fa067ea4cce4f97fe956b5801b5e75bf305ed24b7ae134fd8b723e6", func := "loop.example/serialpair/laws.FnModemChanged", spec := "fnModemChanged", apart := false, narrowed := true }
def FnModemChangedUptoSaid : Prop := fnModemChangedUptoRow.holds Try.pinned (OpenSpec.upto fnModemChangedSpec)

/-- 'laws.FnExactModemRead', WHERE WHAT IT READS IS OF BULK AT MOST 1048576: true; the input reads as it did. -/
def fnExactModemReadUptoRow : OpenClaim := { program := "ytjnkbheolgchjaa", sum := "b0a015c65fa067ea4cce4f97fe956b5801b5e75bf305ed24b7ae134fd8b723e6", func := "loop.example/serialpair/laws.FnExactModemRead", spec := "fnExactModemRead", apart := false, narrowed := true }
def FnExactModemReadUptoSaid : Prop := fnExactModemReadUptoRow.holds Try.pinned (OpenSpec.upto fnExactModemReadSpec)

/-- 'laws.FnModemBits', WHERE WHAT IT READS IS OF BULK AT MOST 1048576: true; the input reads as it did. -/
def fnModemBitsUptoRow : OpenClaim := { program := "ytjnkbheolgchjaa", sum := "b0a015c65fa067ea4cce4f97fe956b5801b5e75bf305ed24b7ae134fd8b723e6", func := "loop.example/serialpair/laws.FnModemBits", spec := "fnModemBits", apart := false, narrowed := true }
def FnModemBitsUptoSaid : Prop := fnModemBitsUptoRow.holds Try.pinned (OpenSpec.upto fnModemBitsSpec)

/-- 'laws.FnModemRead', WHERE WHAT IT READS IS OF BULK AT MOST 1048576: true; the input reads as it did. -/
def fnModemReadUptoRow : OpenClaim := { program := "ytjnkbheolgchjaa", sum := "b0a015c65fa067ea4cce4f97fe956b5801b5e75bf305ed24b7ae134fd8b723e6", func := "loop.example/serialpair/laws.FnModemRead", spec := "fnModemRead", apart := false, narrowed := true }
def FnModemReadUptoSaid : Prop := fnModemReadUptoRow.holds Try.pinned (OpenSpec.upto fnModemReadSpec)

end Rows
end Go.Proofs.Ytjnkbheolgchjaa
