/-
  No cell of these rows narrows 'for every input' (looked for: loops, veiled, ifaces, maps, wideKeys, modest, calm, conditions, laid).
  DERIVED. THE GIVEN ROWS OF THIS SEAT. 4 by the template 'for every input the law returns true; each argument reads behind the call as it read before'; 0 by the template 'total and deterministic' (their statements: YtoeajbnjenceaaaTotals.lean).
  GIVEN WITH THE SEED: the statements are not yours to turn. If you find one false, say at which input.
  Laid BY PROGRAM, IN A SANDBOX (cutbox-rows.mjs): the forced cells as the released guide's own fill.sh prints them over the translation 72d8a0c6ccf58d1e… (all of the seat's roots in one cut). By AI agents, Wed Nov 11 2026. No macro, syntax, notation, axiom, sorry.
-/
import Derived.Test.YtoeajbnjenceaaaChecked
import GoSem.Claim
import GoSem.ClaimJoined
import GoSem.ClaimMapViews
import Derived.JoinedTies
import Derived.KernelRfl
namespace Go.Proofs.Ytoeajbnjenceaaa
/- THE CELL 'sum', in the pinned program and in every row, IS THE sha256 OF THE DUMP (.gsa) THAT YtoeajbnjenceaaaProg.lean LOADS. Nothing in Lean hashes anything: it is a label: what it is worth is what the hold of that sum in a sandbox is worth. -/
noncomputable def Try.pinned : Pinned := { name := "ytoeajbnjenceaaa", sum := "72d8a0c6ccf58d1eb405f4a98f3c771888b20d99ef7317ef30630874c6ee08a4", checked := Try.checked }
namespace Rows
def none {H : Type} : Left H := { results := [], args := [] }

/-- 'laws.FnExactPacketBytes': WHATEVER THE INPUT: true; the input reads as it did. -/
def fnExactPacketBytesSpec : ChangeSpec := { name := "fnExactPacketBytes", fn := fun _ => fun
  | [d] => { results := [.lit (.bool true)], args := [d] }
  | _ => none }
def fnExactPacketBytesRow : OpenClaim := { program := "ytoeajbnjenceaaa", sum := "72d8a0c6ccf58d1eb405f4a98f3c771888b20d99ef7317ef30630874c6ee08a4", func := "loop.example/serialpair/laws.FnExactPacketBytes", spec := "fnExactPacketBytes", apart := false }
def FnExactPacketBytesSaid : Prop := fnExactPacketBytesRow.holds Try.pinned (OpenSpec.ofChange fnExactPacketBytesSpec)

/-- ITS FALSE NEIGHBOUR: 'it returns false'. Refute it at one input. -/
def fnExactPacketBytesWrong : ChangeSpec := { name := "fnExactPacketBytes", fn := fun _ => fun
  | [d] => { results := [.lit (.bool false)], args := [d] }
  | _ => none }
def FnExactPacketBytesWrongFalsely : Prop := fnExactPacketBytesRow.holds Try.pinned (OpenSpec.ofChange fnExactPacketBytesWrong)

/-- 'laws.FnExactPacketsBytes': WHATEVER THE INPUT: true; the input reads as it did. -/
def fnExactPacketsBytesSpec : ChangeSpec := { name := "fnExactPacketsBytes", fn := fun _ => fun
  | [d] => { results := [.lit (.bool true)], args := [d] }
  | _ => none }
def fnExactPacketsBytesRow : OpenClaim := { program := "ytoeajbnjenceaaa", sum := "72d8a0c6ccf58d1eb405f4a98f3c771888b20d99ef7317ef30630874c6ee08a4", func := "loop.example/serialpair/laws.FnExactPacketsBytes", spec := "fnExactPacketsBytes", apart := false }
def FnExactPacketsBytesSaid : Prop := fnExactPacketsBytesRow.holds Try.pinned (OpenSpec.ofChange fnExactPacketsBytesSpec)

/-- ITS FALSE NEIGHBOUR: 'it returns false'. Refute it at one input. -/
def fnExactPacketsBytesWrong : ChangeSpec := { name := "fnExactPacketsBytes", fn := fun _ => fun
  | [d] => { results := [.lit (.bool false)], args := [d] }
  | _ => none }
def FnExactPacketsBytesWrongFalsely : Prop := fnExactPacketsBytesRow.holds Try.pinned (OpenSpec.ofChange fnExactPacketsBytesWrong)

/-- 'laws.FnPacketEnd': WHATEVER THE INPUT: true; the input reads as it did. -/
def fnPacketEndSpec : ChangeSpec := { name := "fnPacketEnd", fn := fun _ => fun
  | [d] => { results := [.lit (.bool true)], args := [d] }
  | _ => none }
def fnPacketEndRow : OpenClaim := { program := "ytoeajbnjenceaaa", sum := "72d8a0c6ccf58d1eb405f4a98f3c771888b20d99ef7317ef30630874c6ee08a4", func := "loop.example/serialpair/laws.FnPacketEnd", spec := "fnPacketEnd", apart := false }
def FnPacketEndSaid : Prop := fnPacketEndRow.holds Try.pinned (OpenSpec.ofChange fnPacketEndSpec)

/-- ITS FALSE NEIGHBOUR: 'it returns false'. Refute it at one input. -/
def fnPacketEndWrong : ChangeSpec := { name := "fnPacketEnd", fn := fun _ => fun
  | [d] => { results := [.lit (.bool false)], args := [d] }
  | _ => none }
def FnPacketEndWrongFalsely : Prop := fnPacketEndRow.holds Try.pinned (OpenSpec.ofChange fnPacketEndWrong)

/-- 'laws.FnPacketsJoin': WHATEVER THE INPUT: true; the input reads as it did. -/
def fnPacketsJoinSpec : ChangeSpec := { name := "fnPacketsJoin", fn := fun _ => fun
  | [d1, d2] => { results := [.lit (.bool true)], args := [d1, d2] }
  | _ => none }
def fnPacketsJoinRow : OpenClaim := { program := "ytoeajbnjenceaaa", sum := "72d8a0c6ccf58d1eb405f4a98f3c771888b20d99ef7317ef30630874c6ee08a4", func := "loop.example/serialpair/laws.FnPacketsJoin", spec := "fnPacketsJoin", apart := false }
def FnPacketsJoinSaid : Prop := fnPacketsJoinRow.holds Try.pinned (OpenSpec.ofChange fnPacketsJoinSpec)

/-- ITS FALSE NEIGHBOUR: 'it returns false'. Refute it at one input. -/
def fnPacketsJoinWrong : ChangeSpec := { name := "fnPacketsJoin", fn := fun _ => fun
  | [d1, d2] => { results := [.lit (.bool false)], args := [d1, d2] }
  | _ => none }
def FnPacketsJoinWrongFalsely : Prop := fnPacketsJoinRow.holds Try.pinned (OpenSpec.ofChange fnPacketsJoinWrong)

/- THE SECOND FORM. 'bulk': how many values and letters a reading holds, each counted each time it is reached (what is shared counts as often as it is met; a slice's spare places count too). A statement '..UptoSaid' is the law's where the arguments, and the package variables that the reading takes, are together of bulk at most 1048576: NARROWER than '..Said'. Prove '..Said' where nothing that the law and all that it calls make is longer than what came in: it says more and counts as full. Else prove '..UptoSaid'. A law counts once. -/
mutual
def uptoBulk {H : Type} : DataW H → Nat
  | .lit (.string bytes) => bytes.length + 1
  | .lit _ => 1
  | .nil => 1
  | .ptr d => uptoBulk d + 1
  | .slice elems spare => uptoBulkAll elems + uptoBulkAll spare + 1
  | .agg parts => uptoBulkAll parts + 1
  | .iface _ d => uptoBulk d + 1
  | .map entries => uptoBulkEntries entries + 1
  | .held _ => 1
def uptoBulkAll {H : Type} : List (DataW H) → Nat
  | [] => 0
  | d :: r => uptoBulk d + uptoBulkAll r
def uptoBulkEntries {H : Type} : List (Lit × DataW H) → Nat
  | [] => 0
  | x :: r => uptoBulkEntry x + uptoBulkEntries r
def uptoBulkEntry {H : Type} : Lit × DataW H → Nat
  | (.string bytes, d) => bytes.length + uptoBulk d + 1
  | (_, d) => uptoBulk d + 1
 end
def uptoSmall : (H : Type) → List (DataW H) → Bool := fun _ ds => decide (uptoBulkAll ds ≤ 1048576)
def OpenSpec.upto (s : _root_.Go.ChangeSpec) : _root_.Go.OpenSpec := { _root_.Go.OpenSpec.ofChange s with cond := some uptoSmall }

/-- 'laws.FnExactPacketBytes', WHERE WHAT IT READS IS OF BULK AT MOST 1048576: true; the input reads as it did. -/
def fnExactPacketBytesUptoRow : OpenClaim := { program := "ytoeajbnjenceaaa", sum := "72d8a0c6ccf58d1eb405f4a98f3c771888b20d99ef7317ef30630874c6ee08a4", func := "loop.example/serialpair/laws.FnExactPacketBytes", spec := "fnExactPacketBytes", apart := false, narrowed := true }
def FnExactPacketBytesUptoSaid : Prop := fnExactPacketBytesUptoRow.holds Try.pinned (OpenSpec.upto fnExactPacketBytesSpec)

/-- 'laws.FnExactPacketsBytes', WHERE WHAT IT READS IS OF BULK AT MOST 1048576: true; the input reads as it did. -/
def fnExactPacketsBytesUptoRow : OpenClaim := { program := "ytoeajbnjenceaaa", sum := "72d8a0c6ccf58d1eb405f4a98f3c771888b20d99ef7317ef30630874c6ee08a4", func := "loop.example/serialpair/laws.FnExactPacketsBytes", spec := "fnExactPacketsBytes", apart := false, narrowed := true }
def FnExactPacketsBytesUptoSaid : Prop := fnExactPacketsBytesUptoRow.holds Try.pinned (OpenSpec.upto fnExactPacketsBytesSpec)

/-- 'laws.FnPacketEnd', WHERE WHAT IT READS IS OF BULK AT MOST 1048576: true; the input reads as it did. -/
def fnPacketEndUptoRow : OpenClaim := { program := "ytoeajbnjenceaaa", sum := "72d8a0c6ccf58d1eb405f4a98f3c771888b20d99ef7317ef30630874c6ee08a4", func := "loop.example/serialpair/laws.FnPacketEnd", spec := "fnPacketEnd", apart := false, narrowed := true }
def FnPacketEndUptoSaid : Prop := fnPacketEndUptoRow.holds Try.pinned (OpenSpec.upto fnPacketEndSpec)

/-- 'laws.FnPacketsJoin', WHERE WHAT IT READS IS OF BULK AT MOST 1048576: true; the input reads as it did. -/
def fnPacketsJoinUptoRow : OpenClaim := { program := "ytoeajbnjenceaaa", sum := "72d8a0c6ccf58d1eb405f4a98f3c771888b20d99ef7317ef30630874c6ee08a4", func := "loop.example/serialpair/laws.FnPacketsJoin", spec := "fnPacketsJoin", apart := false, narrowed := true }
def FnPacketsJoinUptoSaid : Prop := fnPacketsJoinUptoRow.holds Try.pinned (OpenSpec.upto fnPacketsJoinSpec)

end Rows
end Go.Proofs.Ytoeajbnjenceaaa
