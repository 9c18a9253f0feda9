/-
  NARROWER THAN 'FOR EVERY INPUT', by the rows' own cells (each row's printed sentence says how): FnExactPacketsFrom: laid · FnPacket: laid · FnPackets: laid · FnPacketEndAhead: laid · FnPacketsEnds: laid · FnPacketsFrom: laid · FnPacketsFromParts: laid.
  DERIVED. THE GIVEN ROWS OF THIS SEAT. 7 by the template 'for every input the law returns true; each argument reads behind the call as it read before'; 0 by the template 'total and deterministic' (their statements: YtoeajbnjenceaaaDoorTotals.lean).
  GIVEN WITH THE SEED: the statements are not yours to turn. If you find one false, say at which input.
  Laid BY PROGRAM, IN A SANDBOX (cutbox-rows.mjs): the forced cells as the released guide's own fill.sh prints them over the translation 479cacd240c2da7e… (all of the seat's roots in one cut). By AI agents, Wed Nov 11 2026. No macro, syntax, notation, axiom, sorry.
-/
import Derived.Test.YtoeajbnjenceaaaDoorChecked
import GoSem.Claim
import GoSem.ClaimJoined
import GoSem.ClaimMapViews
import Derived.JoinedTies
import Derived.KernelRfl
namespace Go.Proofs.YtoeajbnjenceaaaDoor
/- THE CELL 'sum', in the pinned program and in every row, IS THE sha256 OF THE DUMP (.gsa) THAT YtoeajbnjenceaaaDoorProg.lean LOADS. Nothing in Lean hashes anything: it is a label: what it is worth is what the hold of that sum in a sandbox is worth. -/
noncomputable def Tryd.pinned : Pinned := { name := "ytoeajbnjenceaaadoor", sum := "479cacd240c2da7e1f3ece5d5721c3c4eaa341223a428ef4b39da73b62ed4ad0", checked := Tryd.checked }
namespace Rows
def none {H : Type} : Left H := { results := [], args := [] }

/- WHAT THE LISTED PACKAGE-LEVEL VARIABLES READ AS WHEN THE CALL BEGINS. Each datum BY PROGRAM (the guide's laid-datum.mjs) off the statement by which the dump's own 'gosem.cut.vars' lays the variable. In a bare row this is a premise. The card (YtoeajbnjenceaaaDoorCards.lean) ties it to the program's text. -/
def laid_errors_errorType {H : Type} : DataW H := .iface "internal/reflectlite.rtype" (.agg [.ptr (.lit (.string [101, 114, 114, 111, 114]))])

/-- 'laws.FnExactPacketsFrom': WHATEVER THE INPUT: true; the input reads as it did. -/
def fnExactPacketsFromSpec : ChangeSpec := { name := "fnExactPacketsFrom", fn := fun _ => fun
  | [d] => { results := [.lit (.bool true)], args := [d] }
  | _ => none }
def fnExactPacketsFromRow : OpenClaim := { program := "ytoeajbnjenceaaadoor", sum := "479cacd240c2da7e1f3ece5d5721c3c4eaa341223a428ef4b39da73b62ed4ad0", func := "loop.example/serialpair/laws.FnExactPacketsFrom", spec := "fnExactPacketsFrom", inPlace := ["internal/reflectlite.ValueOf", "(internal/reflectlite.Value).Type", "(internal/reflectlite.Value).IsNil", "internal/reflectlite.TypeOf", "(internal/reflectlite.Value).Elem", "(internal/reflectlite.Value).Set"], unfollowed := true, recurses := true, named := ["errors.errorType"], apart := false, laid := [("errors.errorType", laid_errors_errorType)] }
def FnExactPacketsFromSaid : Prop := fnExactPacketsFromRow.holds Tryd.pinned (OpenSpec.ofChange fnExactPacketsFromSpec)

/-- ITS FALSE NEIGHBOUR: 'it returns false'. Refute it at one input. -/
def fnExactPacketsFromWrong : ChangeSpec := { name := "fnExactPacketsFrom", fn := fun _ => fun
  | [d] => { results := [.lit (.bool false)], args := [d] }
  | _ => none }
def FnExactPacketsFromWrongFalsely : Prop := fnExactPacketsFromRow.holds Tryd.pinned (OpenSpec.ofChange fnExactPacketsFromWrong)

/-- 'laws.FnPacket': WHATEVER THE INPUT: true; the input reads as it did. -/
def fnPacketSpec : ChangeSpec := { name := "fnPacket", fn := fun _ => fun
  | [d] => { results := [.lit (.bool true)], args := [d] }
  | _ => none }
def fnPacketRow : OpenClaim := { program := "ytoeajbnjenceaaadoor", sum := "479cacd240c2da7e1f3ece5d5721c3c4eaa341223a428ef4b39da73b62ed4ad0", func := "loop.example/serialpair/laws.FnPacket", spec := "fnPacket", inPlace := ["internal/reflectlite.ValueOf", "(internal/reflectlite.Value).Type", "(internal/reflectlite.Value).IsNil", "internal/reflectlite.TypeOf", "(internal/reflectlite.Value).Elem", "(internal/reflectlite.Value).Set"], unfollowed := true, recurses := true, named := ["errors.errorType"], apart := false, laid := [("errors.errorType", laid_errors_errorType)] }
def FnPacketSaid : Prop := fnPacketRow.holds Tryd.pinned (OpenSpec.ofChange fnPacketSpec)

/-- ITS FALSE NEIGHBOUR: 'it returns false'. Refute it at one input. -/
def fnPacketWrong : ChangeSpec := { name := "fnPacket", fn := fun _ => fun
  | [d] => { results := [.lit (.bool false)], args := [d] }
  | _ => none }
def FnPacketWrongFalsely : Prop := fnPacketRow.holds Tryd.pinned (OpenSpec.ofChange fnPacketWrong)

/-- 'laws.FnPackets': WHATEVER THE INPUT: true; the input reads as it did. -/
def fnPacketsSpec : ChangeSpec := { name := "fnPackets", fn := fun _ => fun
  | [d] => { results := [.lit (.bool true)], args := [d] }
  | _ => none }
def fnPacketsRow : OpenClaim := { program := "ytoeajbnjenceaaadoor", sum := "479cacd240c2da7e1f3ece5d5721c3c4eaa341223a428ef4b39da73b62ed4ad0", func := "loop.example/serialpair/laws.FnPackets", spec := "fnPackets", inPlace := ["internal/reflectlite.ValueOf", "(internal/reflectlite.Value).Type", "(internal/reflectlite.Value).IsNil", "internal/reflectlite.TypeOf", "(internal/reflectlite.Value).Elem", "(internal/reflectlite.Value).Set"], unfollowed := true, recurses := true, named := ["errors.errorType"], apart := false, laid := [("errors.errorType", laid_errors_errorType)] }
def FnPacketsSaid : Prop := fnPacketsRow.holds Tryd.pinned (OpenSpec.ofChange fnPacketsSpec)

/-- ITS FALSE NEIGHBOUR: 'it returns false'. Refute it at one input. -/
def fnPacketsWrong : ChangeSpec := { name := "fnPackets", fn := fun _ => fun
  | [d] => { results := [.lit (.bool false)], args := [d] }
  | _ => none }
def FnPacketsWrongFalsely : Prop := fnPacketsRow.holds Tryd.pinned (OpenSpec.ofChange fnPacketsWrong)

/-- 'laws.FnPacketEndAhead': WHATEVER THE INPUT: true; the input reads as it did. -/
def fnPacketEndAheadSpec : ChangeSpec := { name := "fnPacketEndAhead", fn := fun _ => fun
  | [d] => { results := [.lit (.bool true)], args := [d] }
  | _ => none }
def fnPacketEndAheadRow : OpenClaim := { program := "ytoeajbnjenceaaadoor", sum := "479cacd240c2da7e1f3ece5d5721c3c4eaa341223a428ef4b39da73b62ed4ad0", func := "loop.example/serialpair/laws.FnPacketEndAhead", spec := "fnPacketEndAhead", inPlace := ["internal/reflectlite.ValueOf", "(internal/reflectlite.Value).Type", "(internal/reflectlite.Value).IsNil", "internal/reflectlite.TypeOf", "(internal/reflectlite.Value).Elem", "(internal/reflectlite.Value).Set"], unfollowed := true, recurses := true, named := ["errors.errorType"], apart := false, laid := [("errors.errorType", laid_errors_errorType)] }
def FnPacketEndAheadSaid : Prop := fnPacketEndAheadRow.holds Tryd.pinned (OpenSpec.ofChange fnPacketEndAheadSpec)

/-- ITS FALSE NEIGHBOUR: 'it returns false'. Refute it at one input. -/
def fnPacketEndAheadWrong : ChangeSpec := { name := "fnPacketEndAhead", fn := fun _ => fun
  | [d] => { results := [.lit (.bool false)], args := [d] }
  | _ => none }
def FnPacketEndAheadWrongFalsely : Prop := fnPacketEndAheadRow.holds Tryd.pinned (OpenSpec.ofChange fnPacketEndAheadWrong)

/-- 'laws.FnPacketsEnds': WHATEVER THE INPUT: true; the input reads as it did. -/
def fnPacketsEndsSpec : ChangeSpec := { name := "fnPacketsEnds", fn := fun _ => fun
  | [d] => { results := [.lit (.bool true)], args := [d] }
  | _ => none }
def fnPacketsEndsRow : OpenClaim := { program := "ytoeajbnjenceaaadoor", sum := "479cacd240c2da7e1f3ece5d5721c3c4eaa341223a428ef4b39da73b62ed4ad0", func := "loop.example/serialpair/laws.FnPacketsEnds", spec := "fnPacketsEnds", inPlace := ["internal/reflectlite.ValueOf", "(internal/reflectlite.Value).Type", "(internal/reflectlite.Value).IsNil", "internal/reflectlite.TypeOf", "(internal/reflectlite.Value).Elem", "(internal/reflectlite.Value).Set"], unfollowed := true, recurses := true, named := ["errors.errorType"], apart := false, laid := [("errors.errorType", laid_errors_errorType)] }
def FnPacketsEndsSaid : Prop := fnPacketsEndsRow.holds Tryd.pinned (OpenSpec.ofChange fnPacketsEndsSpec)

/-- ITS FALSE NEIGHBOUR: 'it returns false'. Refute it at one input. -/
def fnPacketsEndsWrong : ChangeSpec := { name := "fnPacketsEnds", fn := fun _ => fun
  | [d] => { results := [.lit (.bool false)], args := [d] }
  | _ => none }
def FnPacketsEndsWrongFalsely : Prop := fnPacketsEndsRow.holds Tryd.pinned (OpenSpec.ofChange fnPacketsEndsWrong)

/-- 'laws.FnPacketsFrom': WHATEVER THE INPUT: true; the input reads as it did. -/
def fnPacketsFromSpec : ChangeSpec := { name := "fnPacketsFrom", fn := fun _ => fun
  | [d] => { results := [.lit (.bool true)], args := [d] }
  | _ => none }
def fnPacketsFromRow : OpenClaim := { program := "ytoeajbnjenceaaadoor", sum := "479cacd240c2da7e1f3ece5d5721c3c4eaa341223a428ef4b39da73b62ed4ad0", func := "loop.example/serialpair/laws.FnPacketsFrom", spec := "fnPacketsFrom", inPlace := ["internal/reflectlite.ValueOf", "(internal/reflectlite.Value).Type", "(internal/reflectlite.Value).IsNil", "internal/reflectlite.TypeOf", "(internal/reflectlite.Value).Elem", "(internal/reflectlite.Value).Set"], unfollowed := true, recurses := true, named := ["errors.errorType"], apart := false, laid := [("errors.errorType", laid_errors_errorType)] }
def FnPacketsFromSaid : Prop := fnPacketsFromRow.holds Tryd.pinned (OpenSpec.ofChange fnPacketsFromSpec)

/-- ITS FALSE NEIGHBOUR: 'it returns false'. Refute it at one input. -/
def fnPacketsFromWrong : ChangeSpec := { name := "fnPacketsFrom", fn := fun _ => fun
  | [d] => { results := [.lit (.bool false)], args := [d] }
  | _ => none }
def FnPacketsFromWrongFalsely : Prop := fnPacketsFromRow.holds Tryd.pinned (OpenSpec.ofChange fnPacketsFromWrong)

/-- 'laws.FnPacketsFromParts': WHATEVER THE INPUT: true; the input reads as it did. -/
def fnPacketsFromPartsSpec : ChangeSpec := { name := "fnPacketsFromParts", fn := fun _ => fun
  | [d1, d2] => { results := [.lit (.bool true)], args := [d1, d2] }
  | _ => none }
def fnPacketsFromPartsRow : OpenClaim := { program := "ytoeajbnjenceaaadoor", sum := "479cacd240c2da7e1f3ece5d5721c3c4eaa341223a428ef4b39da73b62ed4ad0", func := "loop.example/serialpair/laws.FnPacketsFromParts", spec := "fnPacketsFromParts", inPlace := ["internal/reflectlite.ValueOf", "(internal/reflectlite.Value).Type", "(internal/reflectlite.Value).IsNil", "internal/reflectlite.TypeOf", "(internal/reflectlite.Value).Elem", "(internal/reflectlite.Value).Set"], unfollowed := true, recurses := true, named := ["errors.errorType"], apart := false, laid := [("errors.errorType", laid_errors_errorType)] }
def FnPacketsFromPartsSaid : Prop := fnPacketsFromPartsRow.holds Tryd.pinned (OpenSpec.ofChange fnPacketsFromPartsSpec)

/-- ITS FALSE NEIGHBOUR: 'it returns false'. Refute it at one input. -/
def fnPacketsFromPartsWrong : ChangeSpec := { name := "fnPacketsFromParts", fn := fun _ => fun
  | [d1, d2] => { results := [.lit (.bool false)], args := [d1, d2] }
  | _ => none }
def FnPacketsFromPartsWrongFalsely : Prop := fnPacketsFromPartsRow.holds Tryd.pinned (OpenSpec.ofChange fnPacketsFromPartsWrong)

/- THE SECOND FORM. 'bulk': how many values and letters a reading holds, each counted each time it is reached (what is shared counts as often as it is met; a slice's spare places count too). A statement '..UptoSaid' is the law's where the arguments, and the package variables that the reading takes, are together of bulk at most 1048576: NARROWER than '..Said'. Prove '..Said' where nothing that the law and all that it calls make is longer than what came in: it says more and counts as full. Else prove '..UptoSaid'. A law counts once. -/
mutual
def uptoBulk {H : Type} : DataW H → Nat
  | .lit (.string bytes) => bytes.length + 1
  | .lit _ => 1
  | .nil => 1
  | .ptr d => uptoBulk d + 1
  | .slice elems spare => uptoBulkAll elems + uptoBulkAll spare + 1
  | .agg parts => uptoBulkAll parts + 1
  | .iface _ d => uptoBulk d + 1
  | .map entries => uptoBulkEntries entries + 1
  | .held _ => 1
def uptoBulkAll {H : Type} : List (DataW H) → Nat
  | [] => 0
  | d :: r => uptoBulk d + uptoBulkAll r
def uptoBulkEntries {H : Type} : List (Lit × DataW H) → Nat
  | [] => 0
  | x :: r => uptoBulkEntry x + uptoBulkEntries r
def uptoBulkEntry {H : Type} : Lit × DataW H → Nat
  | (.string bytes, d) => bytes.length + uptoBulk d + 1
  | (_, d) => uptoBulk d + 1
 end
def uptoSmall : (H : Type) → List (DataW H) → Bool := fun _ ds => decide (uptoBulkAll ds ≤ 1048576)
def OpenSpec.upto (s : _root_.Go.ChangeSpec) : _root_.Go.OpenSpec := { _root_.Go.OpenSpec.ofChange s with cond := some uptoSmall }

/-- 'laws.FnExactPacketsFrom', WHERE WHAT IT READS IS OF BULK AT MOST 1048576: true; the input reads as it did. -/
def fnExactPacketsFromUptoRow : OpenClaim := { program := "ytoeajbnjenceaaadoor", sum := "479cacd240c2da7e1f3ece5d5721c3c4eaa341223a428ef4b39da73b62ed4ad0", func := "loop.example/serialpair/laws.FnExactPacketsFrom", spec := "fnExactPacketsFrom", inPlace := ["internal/reflectlite.ValueOf", "(internal/reflectlite.Value).Type", "(internal/reflectlite.Value).IsNil", "internal/reflectlite.TypeOf", "(internal/reflectlite.Value).Elem", "(internal/reflectlite.Value).Set"], unfollowed := true, recurses := true, named := ["errors.errorType"], apart := false, laid := [("errors.errorType", laid_errors_errorType)], narrowed := true }
def FnExactPacketsFromUptoSaid : Prop := fnExactPacketsFromUptoRow.holds Tryd.pinned (OpenSpec.upto fnExactPacketsFromSpec)

/-- 'laws.FnPacket', WHERE WHAT IT READS IS OF BULK AT MOST 1048576: true; the input reads as it did. -/
def fnPacketUptoRow : OpenClaim := { program := "ytoeajbnjenceaaadoor", sum := "479cacd240c2da7e1f3ece5d5721c3c4eaa341223a428ef4b39da73b62ed4ad0", func := "loop.example/serialpair/laws.FnPacket", spec := "fnPacket", inPlace := ["internal/reflectlite.ValueOf", "(internal/reflectlite.Value).Type", "(internal/reflectlite.Value).IsNil", "internal/reflectlite.TypeOf", "(internal/reflectlite.Value).Elem", "(internal/reflectlite.Value).Set"], unfollowed := true, recurses := true, named := ["errors.errorType"], apart := false, laid := [("errors.errorType", laid_errors_errorType)], narrowed := true }
def FnPacketUptoSaid : Prop := fnPacketUptoRow.holds Tryd.pinned (OpenSpec.upto fnPacketSpec)

/-- 'laws.FnPackets', WHERE WHAT IT READS IS OF BULK AT MOST 1048576: true; the input reads as it did. -/
def fnPacketsUptoRow : OpenClaim := { program := "ytoeajbnjenceaaadoor", sum := "479cacd240c2da7e1f3ece5d5721c3c4eaa341223a428ef4b39da73b62ed4ad0", func := "loop.example/serialpair/laws.FnPackets", spec := "fnPackets", inPlace := ["internal/reflectlite.ValueOf", "(internal/reflectlite.Value).Type", "(internal/reflectlite.Value).IsNil", "internal/reflectlite.TypeOf", "(internal/reflectlite.Value).Elem", "(internal/reflectlite.Value).Set"], unfollowed := true, recurses := true, named := ["errors.errorType"], apart := false, laid := [("errors.errorType", laid_errors_errorType)], narrowed := true }
def FnPacketsUptoSaid : Prop := fnPacketsUptoRow.holds Tryd.pinned (OpenSpec.upto fnPacketsSpec)

/-- 'laws.FnPacketEndAhead', WHERE WHAT IT READS IS OF BULK AT MOST 1048576: true; the input reads as it did. -/
def fnPacketEndAheadUptoRow : OpenClaim := { program := "ytoeajbnjenceaaadoor", sum := "479cacd240c2da7e1f3ece5d5721c3c4eaa341223a428ef4b39da73b62ed4ad0", func := "loop.example/serialpair/laws.FnPacketEndAhead", spec := "fnPacketEndAhead", inPlace := ["internal/reflectlite.ValueOf", "(internal/reflectlite.Value).Type", "(internal/reflectlite.Value).IsNil", "internal/reflectlite.TypeOf", "(internal/reflectlite.Value).Elem", "(internal/reflectlite.Value).Set"], unfollowed := true, recurses := true, named := ["errors.errorType"], apart := false, laid := [("errors.errorType", laid_errors_errorType)], narrowed := true }
def FnPacketEndAheadUptoSaid : Prop := fnPacketEndAheadUptoRow.holds Tryd.pinned (OpenSpec.upto fnPacketEndAheadSpec)

/-- 'laws.FnPacketsEnds', WHERE WHAT IT READS IS OF BULK AT MOST 1048576: true; the input reads as it did. -/
def fnPacketsEndsUptoRow : OpenClaim := { program := "ytoeajbnjenceaaadoor", sum := "479cacd240c2da7e1f3ece5d5721c3c4eaa341223a428ef4b39da73b62ed4ad0", func := "loop.example/serialpair/laws.FnPacketsEnds", spec := "fnPacketsEnds", inPlace := ["internal/reflectlite.ValueOf", "(internal/reflectlite.Value).Type", "(internal/reflectlite.Value).IsNil", "internal/reflectlite.TypeOf", "(internal/reflectlite.Value).Elem", "(internal/reflectlite.Value).Set"], unfollowed := true, recurses := true, named := ["errors.errorType"], apart := false, laid := [("errors.errorType", laid_errors_errorType)], narrowed := true }
def FnPacketsEndsUptoSaid : Prop := fnPacketsEndsUptoRow.holds Tryd.pinned (OpenSpec.upto fnPacketsEndsSpec)

/-- 'laws.FnPacketsFrom', WHERE WHAT IT READS IS OF BULK AT MOST 1048576: true; the input reads as it did. -/
def fnPacketsFromUptoRow : OpenClaim := { program := "ytoeajbnjenceaaadoor", sum := "479cacd240c2da7e1f3ece5d5721c3c4eaa341223a428ef4b39da73b62ed4ad0", func := "loop.example/serialpair/laws.FnPacketsFrom", spec := "fnPacketsFrom", inPlace := ["internal/reflectlite.ValueOf", "(internal/reflectlite.Value).Type", "(internal/reflectlite.Value).IsNil", "internal/reflectlite.TypeOf", "(internal/reflectlite.Value).Elem", "(internal/reflectlite.Value).Set"], unfollowed := true, recurses := true, named := ["errors.errorType"], apart := false, laid := [("errors.errorType", laid_errors_errorType)], narrowed := true }
def FnPacketsFromUptoSaid : Prop := fnPacketsFromUptoRow.holds Tryd.pinned (OpenSpec.upto fnPacketsFromSpec)

/-- 'laws.FnPacketsFromParts', WHERE WHAT IT READS IS OF BULK AT MOST 1048576: true; the input reads as it did. -/
def fnPacketsFromPartsUptoRow : OpenClaim := { program := "ytoeajbnjenceaaadoor", sum := "479cacd240c2da7e1f3ece5d5721c3c4eaa341223a428ef4b39da73b62ed4ad0", func := "loop.example/serialpair/laws.FnPacketsFromParts", spec := "fnPacketsFromParts", inPlace := ["internal/reflectlite.ValueOf", "(internal/reflectlite.Value).Type", "(internal/reflectlite.Value).IsNil", "internal/reflectlite.TypeOf", "(internal/reflectlite.Value).Elem", "(internal/reflectlite.Value).Set"], unfollowed := true, recurses := true, named := ["errors.errorType"], apart := false, laid := [("errors.errorType", laid_errors_errorType)], narrowed := true }
def FnPacketsFromPartsUptoSaid : Prop := fnPacketsFromPartsUptoRow.holds Tryd.pinned (OpenSpec.upto fnPacketsFromPartsSpec)

end Rows
end Go.Proofs.YtoeajbnjenceaaaDoor
