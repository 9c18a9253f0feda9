/-
  No cell of these rows narrows 'for every input' (looked for: loops, veiled, ifaces, maps, wideKeys, modest, calm, conditions, laid).
  DERIVED. THE GIVEN ROWS OF THIS SEAT. 10 by the template 'for every input the law returns true; each argument reads behind the call as it read before'; 0 by the template 'total and deterministic' (their statements: YtcanajbdmdhpeaaTotals.lean).
  GIVEN WITH THE SEED: the statements are not yours to turn. If you find one false, say at which input.
  Laid BY PROGRAM, IN A SANDBOX (cutbox-rows.mjs): the forced cells as the released guide's own fill.sh prints them over the translation 98198186631faba6… (all of the seat's roots in one cut). By AI agents, Wed Nov 11 2026. No macro, syntax, notation, axiom, sorry.
-/
import Derived.Test.YtcanajbdmdhpeaaChecked
import GoSem.Claim
import GoSem.ClaimJoined
import GoSem.ClaimMapViews
import Derived.JoinedTies
import Derived.KernelRfl
namespace Go.Proofs.Ytcanajbdmdhpeaa
/- THE CELL 'sum', in the pinned program and in every row, IS THE sha256 OF THE DUMP (.gsa) THAT YtcanajbdmdhpeaaProg.lean LOADS. Nothing in Lean hashes anything: it is a label: what it is worth is what the hold of that sum in a sandbox is worth. -/
noncomputable def Try.pinned : Pinned := { name := "ytcanajbdmdhpeaa", sum := "98198186631faba6a049c042a0546712b0ef280895d16d57b6e4d35c0763e8f9", checked := Try.checked }
namespace Rows
def none {H : Type} : Left H := { results := [], args := [] }

/-- 'laws.FnExactSumOf': WHATEVER THE INPUT: true; the input reads as it did. -/
def fnExactSumOfSpec : ChangeSpec := { name := "fnExactSumOf", fn := fun _ => fun
  | [d] => { results := [.lit (.bool true)], args := [d] }
  | _ => none }
def fnExactSumOfRow : OpenClaim := { program := "ytcanajbdmdhpeaa", sum := "98198186631faba6a049c042a0546712b0ef280895d16d57b6e4d35c0763e8f9", func := "loop.example/serialpair/laws.FnExactSumOf", spec := "fnExactSumOf", unfollowed := true, recurses := true, apart := false }
def FnExactSumOfSaid : Prop := fnExactSumOfRow.holds Try.pinned (OpenSpec.ofChange fnExactSumOfSpec)

/-- ITS FALSE NEIGHBOUR: 'it returns false'. Refute it at one input. -/
def fnExactSumOfWrong : ChangeSpec := { name := "fnExactSumOf", fn := fun _ => fun
  | [d] => { results := [.lit (.bool false)], args := [d] }
  | _ => none }
def FnExactSumOfWrongFalsely : Prop := fnExactSumOfRow.holds Try.pinned (OpenSpec.ofChange fnExactSumOfWrong)

/-- 'laws.FnExactSumPut': WHATEVER THE INPUT: true; the input reads as it did. -/
def fnExactSumPutSpec : ChangeSpec := { name := "fnExactSumPut", fn := fun _ => fun
  | [d] => { results := [.lit (.bool true)], args := [d] }
  | _ => none }
def fnExactSumPutRow : OpenClaim := { program := "ytcanajbdmdhpeaa", sum := "98198186631faba6a049c042a0546712b0ef280895d16d57b6e4d35c0763e8f9", func := "loop.example/serialpair/laws.FnExactSumPut", spec := "fnExactSumPut", unfollowed := true, recurses := true, apart := false }
def FnExactSumPutSaid : Prop := fnExactSumPutRow.holds Try.pinned (OpenSpec.ofChange fnExactSumPutSpec)

/-- ITS FALSE NEIGHBOUR: 'it returns false'. Refute it at one input. -/
def fnExactSumPutWrong : ChangeSpec := { name := "fnExactSumPut", fn := fun _ => fun
  | [d] => { results := [.lit (.bool false)], args := [d] }
  | _ => none }
def FnExactSumPutWrongFalsely : Prop := fnExactSumPutRow.holds Try.pinned (OpenSpec.ofChange fnExactSumPutWrong)

/-- 'laws.FnExactSumTake': WHATEVER THE INPUT: true; the input reads as it did. -/
def fnExactSumTakeSpec : ChangeSpec := { name := "fnExactSumTake", fn := fun _ => fun
  | [d] => { results := [.lit (.bool true)], args := [d] }
  | _ => none }
def fnExactSumTakeRow : OpenClaim := { program := "ytcanajbdmdhpeaa", sum := "98198186631faba6a049c042a0546712b0ef280895d16d57b6e4d35c0763e8f9", func := "loop.example/serialpair/laws.FnExactSumTake", spec := "fnExactSumTake", unfollowed := true, recurses := true, apart := false }
def FnExactSumTakeSaid : Prop := fnExactSumTakeRow.holds Try.pinned (OpenSpec.ofChange fnExactSumTakeSpec)

/-- ITS FALSE NEIGHBOUR: 'it returns false'. Refute it at one input. -/
def fnExactSumTakeWrong : ChangeSpec := { name := "fnExactSumTake", fn := fun _ => fun
  | [d] => { results := [.lit (.bool false)], args := [d] }
  | _ => none }
def FnExactSumTakeWrongFalsely : Prop := fnExactSumTakeRow.holds Try.pinned (OpenSpec.ofChange fnExactSumTakeWrong)

/-- 'laws.FnSum': WHATEVER THE INPUT: true; the input reads as it did. -/
def fnSumSpec : ChangeSpec := { name := "fnSum", fn := fun _ => fun
  | [d] => { results := [.lit (.bool true)], args := [d] }
  | _ => none }
def fnSumRow : OpenClaim := { program := "ytcanajbdmdhpeaa", sum := "98198186631faba6a049c042a0546712b0ef280895d16d57b6e4d35c0763e8f9", func := "loop.example/serialpair/laws.FnSum", spec := "fnSum", unfollowed := true, recurses := true, apart := false }
def FnSumSaid : Prop := fnSumRow.holds Try.pinned (OpenSpec.ofChange fnSumSpec)

/-- ITS FALSE NEIGHBOUR: 'it returns false'. Refute it at one input. -/
def fnSumWrong : ChangeSpec := { name := "fnSum", fn := fun _ => fun
  | [d] => { results := [.lit (.bool false)], args := [d] }
  | _ => none }
def FnSumWrongFalsely : Prop := fnSumRow.holds Try.pinned (OpenSpec.ofChange fnSumWrong)

/-- 'laws.FnSumOrder': WHATEVER THE INPUT: true; the input reads as it did. -/
def fnSumOrderSpec : ChangeSpec := { name := "fnSumOrder", fn := fun _ => fun
  | [d] => { results := [.lit (.bool true)], args := [d] }
  | _ => none }
def fnSumOrderRow : OpenClaim := { program := "ytcanajbdmdhpeaa", sum := "98198186631faba6a049c042a0546712b0ef280895d16d57b6e4d35c0763e8f9", func := "loop.example/serialpair/laws.FnSumOrder", spec := "fnSumOrder", unfollowed := true, recurses := true, apart := false }
def FnSumOrderSaid : Prop := fnSumOrderRow.holds Try.pinned (OpenSpec.ofChange fnSumOrderSpec)

/-- ITS FALSE NEIGHBOUR: 'it returns false'. Refute it at one input. -/
def fnSumOrderWrong : ChangeSpec := { name := "fnSumOrder", fn := fun _ => fun
  | [d] => { results := [.lit (.bool false)], args := [d] }
  | _ => none }
def FnSumOrderWrongFalsely : Prop := fnSumOrderRow.holds Try.pinned (OpenSpec.ofChange fnSumOrderWrong)

/-- 'laws.FnSumStep': WHATEVER THE INPUT: true; the input reads as it did. -/
def fnSumStepSpec : ChangeSpec := { name := "fnSumStep", fn := fun _ => fun
  | [d] => { results := [.lit (.bool true)], args := [d] }
  | _ => none }
def fnSumStepRow : OpenClaim := { program := "ytcanajbdmdhpeaa", sum := "98198186631faba6a049c042a0546712b0ef280895d16d57b6e4d35c0763e8f9", func := "loop.example/serialpair/laws.FnSumStep", spec := "fnSumStep", unfollowed := true, recurses := true, apart := false }
def FnSumStepSaid : Prop := fnSumStepRow.holds Try.pinned (OpenSpec.ofChange fnSumStepSpec)

/-- ITS FALSE NEIGHBOUR: 'it returns false'. Refute it at one input. -/
def fnSumStepWrong : ChangeSpec := { name := "fnSumStep", fn := fun _ => fun
  | [d] => { results := [.lit (.bool false)], args := [d] }
  | _ => none }
def FnSumStepWrongFalsely : Prop := fnSumStepRow.holds Try.pinned (OpenSpec.ofChange fnSumStepWrong)

/-- 'laws.FnSumPut': WHATEVER THE INPUT: true; the input reads as it did. -/
def fnSumPutSpec : ChangeSpec := { name := "fnSumPut", fn := fun _ => fun
  | [d] => { results := [.lit (.bool true)], args := [d] }
  | _ => none }
def fnSumPutRow : OpenClaim := { program := "ytcanajbdmdhpeaa", sum := "98198186631faba6a049c042a0546712b0ef280895d16d57b6e4d35c0763e8f9", func := "loop.example/serialpair/laws.FnSumPut", spec := "fnSumPut", unfollowed := true, recurses := true, apart := false }
def FnSumPutSaid : Prop := fnSumPutRow.holds Try.pinned (OpenSpec.ofChange fnSumPutSpec)

/-- ITS FALSE NEIGHBOUR: 'it returns false'. Refute it at one input. -/
def fnSumPutWrong : ChangeSpec := { name := "fnSumPut", fn := fun _ => fun
  | [d] => { results := [.lit (.bool false)], args := [d] }
  | _ => none }
def FnSumPutWrongFalsely : Prop := fnSumPutRow.holds Try.pinned (OpenSpec.ofChange fnSumPutWrong)

/-- 'laws.FnSumDamage': WHATEVER THE INPUT: true; the input reads as it did. -/
def fnSumDamageSpec : ChangeSpec := { name := "fnSumDamage", fn := fun _ => fun
  | [d1, d2] => { results := [.lit (.bool true)], args := [d1, d2] }
  | _ => none }
def fnSumDamageRow : OpenClaim := { program := "ytcanajbdmdhpeaa", sum := "98198186631faba6a049c042a0546712b0ef280895d16d57b6e4d35c0763e8f9", func := "loop.example/serialpair/laws.FnSumDamage", spec := "fnSumDamage", unfollowed := true, recurses := true, apart := false }
def FnSumDamageSaid : Prop := fnSumDamageRow.holds Try.pinned (OpenSpec.ofChange fnSumDamageSpec)

/-- ITS FALSE NEIGHBOUR: 'it returns false'. Refute it at one input. -/
def fnSumDamageWrong : ChangeSpec := { name := "fnSumDamage", fn := fun _ => fun
  | [d1, d2] => { results := [.lit (.bool false)], args := [d1, d2] }
  | _ => none }
def FnSumDamageWrongFalsely : Prop := fnSumDamageRow.holds Try.pinned (OpenSpec.ofChange fnSumDamageWrong)

/-- 'laws.FnSumSwap': WHATEVER THE INPUT: true; the input reads as it did. -/
def fnSumSwapSpec : ChangeSpec := { name := "fnSumSwap", fn := fun _ => fun
  | [d] => { results := [.lit (.bool true)], args := [d] }
  | _ => none }
def fnSumSwapRow : OpenClaim := { program := "ytcanajbdmdhpeaa", sum := "98198186631faba6a049c042a0546712b0ef280895d16d57b6e4d35c0763e8f9", func := "loop.example/serialpair/laws.FnSumSwap", spec := "fnSumSwap", unfollowed := true, recurses := true, apart := false }
def FnSumSwapSaid : Prop := fnSumSwapRow.holds Try.pinned (OpenSpec.ofChange fnSumSwapSpec)

/-- ITS FALSE NEIGHBOUR: 'it returns false'. Refute it at one input. -/
def fnSumSwapWrong : ChangeSpec := { name := "fnSumSwap", fn := fun _ => fun
  | [d] => { results := [.lit (.bool false)], args := [d] }
  | _ => none }
def FnSumSwapWrongFalsely : Prop := fnSumSwapRow.holds Try.pinned (OpenSpec.ofChange fnSumSwapWrong)

/-- 'laws.FnSumTake': WHATEVER THE INPUT: true; the input reads as it did. -/
def fnSumTakeSpec : ChangeSpec := { name := "fnSumTake", fn := fun _ => fun
  | [d] => { results := [.lit (.bool true)], args := [d] }
  | _ => none }
def fnSumTakeRow : OpenClaim := { program := "ytcanajbdmdhpeaa", sum := "98198186631faba6a049c042a0546712b0ef280895d16d57b6e4d35c0763e8f9", func := "loop.example/serialpair/laws.FnSumTake", spec := "fnSumTake", unfollowed := true, recurses := true, apart := false }
def FnSumTakeSaid : Prop := fnSumTakeRow.holds Try.pinned (OpenSpec.ofChange fnSumTakeSpec)

/-- ITS FALSE NEIGHBOUR: 'it returns false'. Refute it at one input. -/
def fnSumTakeWrong : ChangeSpec := { name := "fnSumTake", fn := fun _ => fun
  | [d] => { results := [.lit (.bool false)], args := [d] }
  | _ => none }
def FnSumTakeWrongFalsely : Prop := fnSumTakeRow.holds Try.pinned (OpenSpec.ofChange fnSumTakeWrong)

/- THE SECOND FORM. 'bulk': how many values and letters a reading holds, each counted each time it is reached (what is shared counts as often as it is met; a slice's spare places count too). A statement '..UptoSaid' is the law's where the arguments, and the package variables that the reading takes, are together of bulk at most 1048576: NARROWER than '..Said'. Prove '..Said' where nothing that the law and all that it calls make is longer than what came in: it says more and counts as full. Else prove '..UptoSaid'. A law counts once. -/
mutual
def uptoBulk {H : Type} : DataW H → Nat
  | .lit (.string bytes) => bytes.length + 1
  | .lit _ => 1
  | .nil => 1
  | .ptr d => uptoBulk d + 1
  | .slice elems spare => uptoBulkAll elems + uptoBulkAll spare + 1
  | .agg parts => uptoBulkAll parts + 1
  | .iface _ d => uptoBulk d + 1
  | .map entries => uptoBulkEntries entries + 1
  | .held _ => 1
def uptoBulkAll {H : Type} : List (DataW H) → Nat
  | [] => 0
  | d :: r => uptoBulk d + uptoBulkAll r
def uptoBulkEntries {H : Type} : List (Lit × DataW H) → Nat
  | [] => 0
  | x :: r => uptoBulkEntry x + uptoBulkEntries r
def uptoBulkEntry {H : Type} : Lit × DataW H → Nat
  | (.string bytes, d) => bytes.length + uptoBulk d + 1
  | (_, d) => uptoBulk d + 1
 end
def uptoSmall : (H : Type) → List (DataW H) → Bool := fun _ ds => decide (uptoBulkAll ds ≤ 1048576)
def OpenSpec.upto (s : _root_.Go.ChangeSpec) : _root_.Go.OpenSpec := { _root_.Go.OpenSpec.ofChange s with cond := some uptoSmall }

/-- 'laws.FnExactSumOf', WHERE WHAT IT READS IS OF BULK AT MOST 1048576: true; the input reads as it did. -/
def fnExactSumOfUptoRow : OpenClaim := { program := "ytcanajbdmdhpeaa", sum := "98198186631faba6a049c042a0546712b0ef280895d16d57b6e4d35c0763e8f9", func := "loop.example/serialpair/laws.FnExactSumOf", spec := "fnExactSumOf", unfollowed := true, recurses := true, apart := false, narrowed := true }
def FnExactSumOfUptoSaid : Prop := fnExactSumOfUptoRow.holds Try.pinned (OpenSpec.upto fnExactSumOfSpec)

/-- 'laws.FnExactSumPut', WHERE WHAT IT READS IS OF BULK AT MOST 1048576: true; the input reads as it did. -/
def fnExactSumPutUptoRow : OpenClaim := { program := "ytcanajbdmdhpeaa", sum := "98198186631faba6a049c042a0546712b0ef280895d16d57b6e4d35c0763e8f9", func := "loop.example/serialpair/laws.FnExactSumPut", spec := "fnExactSumPut", unfollowed := true, recurses := true, apart := false, narrowed := true }
def FnExactSumPutUptoSaid : Prop := fnExactSumPutUptoRow.holds Try.pinned (OpenSpec.upto fnExactSumPutSpec)

/-- 'laws.FnExactSumTake', WHERE WHAT IT READS IS OF BULK AT MOST 1048576: true; the input reads as it did. -/
def fnExactSumTakeUptoRow : OpenClaim := { program := "ytcanajbdmdhpeaa", sum := "98198186631faba6a049c042a0546712b0ef280895d16d57b6e4d35c0763e8f9", func := "loop.example/serialpair/laws.FnExactSumTake", spec := "fnExactSumTake", unfollowed := true, recurses := true, apart := false, narrowed := true }
def FnExactSumTakeUptoSaid : Prop := fnExactSumTakeUptoRow.holds Try.pinned (OpenSpec.upto fnExactSumTakeSpec)

/-- 'laws.FnSum', WHERE WHAT IT READS IS OF BULK AT MOST 1048576: true; the input reads as it did. -/
def fnSumUptoRow : OpenClaim := { program := "ytcanajbdmdhpeaa", sum := "98198186631faba6a049c042a0546712b0ef280895d16d57b6e4d35c0763e8f9", func := "loop.example/serialpair/laws.FnSum", spec := "fnSum", unfollowed := true, recurses := true, apart := false, narrowed := true }
def FnSumUptoSaid : Prop := fnSumUptoRow.holds Try.pinned (OpenSpec.upto fnSumSpec)

/-- 'laws.FnSumOrder', WHERE WHAT IT READS IS OF BULK AT MOST 1048576: true; the input reads as it did. -/
def fnSumOrderUptoRow : OpenClaim := { program := "ytcanajbdmdhpeaa", sum := "98198186631faba6a049c042a0546712b0ef280895d16d57b6e4d35c0763e8f9", func := "loop.example/serialpair/laws.FnSumOrder", spec := "fnSumOrder", unfollowed := true, recurses := true, apart := false, narrowed := true }
def FnSumOrderUptoSaid : Prop := fnSumOrderUptoRow.holds Try.pinned (OpenSpec.upto fnSumOrderSpec)

/-- 'laws.FnSumStep', WHERE WHAT IT READS IS OF BULK AT MOST 1048576: true; the input reads as it did. -/
def fnSumStepUptoRow : OpenClaim := { program := "ytcanajbdmdhpeaa", sum := "98198186631faba6a049c042a0546712b0ef280895d16d57b6e4d35c0763e8f9", func := "loop.example/serialpair/laws.FnSumStep", spec := "fnSumStep", unfollowed := true, recurses := true, apart := false, narrowed := true }
def FnSumStepUptoSaid : Prop := fnSumStepUptoRow.holds Try.pinned (OpenSpec.upto fnSumStepSpec)

/-- 'laws.FnSumPut', WHERE WHAT IT READS IS OF BULK AT MOST 1048576: true; the input reads as it did. -/
def fnSumPutUptoRow : OpenClaim := { program := "ytcanajbdmdhpeaa", sum := "98198186631faba6a049c042a0546712b0ef280895d16d57b6e4d35c0763e8f9", func := "loop.example/serialpair/laws.FnSumPut", spec := "fnSumPut", unfollowed := true, recurses := true, apart := false, narrowed := true }
def FnSumPutUptoSaid : Prop := fnSumPutUptoRow.holds Try.pinned (OpenSpec.upto fnSumPutSpec)

/-- 'laws.FnSumDamage', WHERE WHAT IT READS IS OF BULK AT MOST 1048576: true; the input reads as it did. -/
def fnSumDamageUptoRow : OpenClaim := { program := "ytcanajbdmdhpeaa", sum := "98198186631faba6a049c042a0546712b0ef280895d16d57b6e4d35c0763e8f9", func := "loop.example/serialpair/laws.FnSumDamage", spec := "fnSumDamage", unfollowed := true, recurses := true, apart := false, narrowed := true }
def FnSumDamageUptoSaid : Prop := fnSumDamageUptoRow.holds Try.pinned (OpenSpec.upto fnSumDamageSpec)

/-- 'laws.FnSumSwap', WHERE WHAT IT READS IS OF BULK AT MOST 1048576: true; the input reads as it did. -/
def fnSumSwapUptoRow : OpenClaim := { program := "ytcanajbdmdhpeaa", sum := "98198186631faba6a049c042a0546712b0ef280895d16d57b6e4d35c0763e8f9", func := "loop.example/serialpair/laws.FnSumSwap", spec := "fnSumSwap", unfollowed := true, recurses := true, apart := false, narrowed := true }
def FnSumSwapUptoSaid : Prop := fnSumSwapUptoRow.holds Try.pinned (OpenSpec.upto fnSumSwapSpec)

/-- 'laws.FnSumTake', WHERE WHAT IT READS IS OF BULK AT MOST 1048576: true; the input reads as it did. -/
def fnSumTakeUptoRow : OpenClaim := { program := "ytcanajbdmdhpeaa", sum := "98198186631faba6a049c042a0546712b0ef280895d16d57b6e4d35c0763e8f9", func := "loop.example/serialpair/laws.FnSumTake", spec := "fnSumTake", unfollowed := true, recurses := true, apart := false, narrowed := true }
def FnSumTakeUptoSaid : Prop := fnSumTakeUptoRow.holds Try.pinned (OpenSpec.upto fnSumTakeSpec)

end Rows
end Go.Proofs.Ytcanajbdmdhpeaa
