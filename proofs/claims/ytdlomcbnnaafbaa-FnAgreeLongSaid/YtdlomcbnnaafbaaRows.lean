/-
  No cell of these rows narrows 'for every input' (looked for: loops, veiled, ifaces, maps, wideKeys, modest, calm, conditions, laid).
  DERIVED. THE GIVEN ROWS OF THIS SEAT. 7 by the template 'for every input the law returns true; each argument reads behind the call as it read before'; 0 by the template 'total and deterministic' (their statements: YtdlomcbnnaafbaaTotals.lean).
  GIVEN WITH THE SEED: the statements are not yours to turn. If you find one false, say at which input.
  Laid BY PROGRAM, IN A SANDBOX (cutbox-rows.mjs): the forced cells as the released guide's own fill.sh prints them over the translation b1a6e1626abd5a00… (all of the seat's roots in one cut). By AI agents, Wed Nov 11 2026. No macro, syntax, notation, axiom, sorry.
-/
import Derived.Test.YtdlomcbnnaafbaaChecked
import GoSem.Claim
import GoSem.ClaimJoined
import GoSem.ClaimMapViews
import Derived.JoinedTies
import Derived.KernelRfl
namespace Go.Proofs.Ytdlomcbnnaafbaa
/- THE CELL 'sum', in the pinned program and in every row, IS THE sha256 OF THE DUMP (.gsa) THAT YtdlomcbnnaafbaaProg.lean LOADS. Nothing in Lean hashes anything: it is a label: what it is worth is what the hold of that sum in a sandbox is worth. -/
noncomputable def Try.pinned : Pinned := { name := "ytdlomcbnnaafbaa", sum := "b1a6e1626abd5a004b8e2a61d2a12e512c46c672a7fbca6721b514506cf8af50", checked := Try.checked }
namespace Rows
def none {H : Type} : Left H := { results := [], args := [] }

/-- 'laws.FnExactRateOf': WHATEVER THE INPUT: true; the input reads as it did. -/
def fnExactRateOfSpec : ChangeSpec := { name := "fnExactRateOf", fn := fun _ => fun
  | [d] => { results := [.lit (.bool true)], args := [d] }
  | _ => none }
def fnExactRateOfRow : OpenClaim := { program := "ytdlomcbnnaafbaa", sum := "b1a6e1626abd5a004b8e2a61d2a12e512c46c672a7fbca6721b514506cf8af50", func := "loop.example/serialpair/laws.FnExactRateOf", spec := "fnExactRateOf", apart := false }
def FnExactRateOfSaid : Prop := fnExactRateOfRow.holds Try.pinned (OpenSpec.ofChange fnExactRateOfSpec)

/-- ITS FALSE NEIGHBOUR: 'it returns false'. Refute it at one input. -/
def fnExactRateOfWrong : ChangeSpec := { name := "fnExactRateOf", fn := fun _ => fun
  | [d] => { results := [.lit (.bool false)], args := [d] }
  | _ => none }
def FnExactRateOfWrongFalsely : Prop := fnExactRateOfRow.holds Try.pinned (OpenSpec.ofChange fnExactRateOfWrong)

/-- 'laws.FnRate': WHATEVER THE INPUT: true; the input reads as it did. -/
def fnRateSpec : ChangeSpec := { name := "fnRate", fn := fun _ => fun
  | [d] => { results := [.lit (.bool true)], args := [d] }
  | _ => none }
def fnRateRow : OpenClaim := { program := "ytdlomcbnnaafbaa", sum := "b1a6e1626abd5a004b8e2a61d2a12e512c46c672a7fbca6721b514506cf8af50", func := "loop.example/serialpair/laws.FnRate", spec := "fnRate", apart := false }
def FnRateSaid : Prop := fnRateRow.holds Try.pinned (OpenSpec.ofChange fnRateSpec)

/-- ITS FALSE NEIGHBOUR: 'it returns false'. Refute it at one input. -/
def fnRateWrong : ChangeSpec := { name := "fnRate", fn := fun _ => fun
  | [d] => { results := [.lit (.bool false)], args := [d] }
  | _ => none }
def FnRateWrongFalsely : Prop := fnRateRow.holds Try.pinned (OpenSpec.ofChange fnRateWrong)

/-- 'laws.FnRateMore': WHATEVER THE INPUT: true; the input reads as it did. -/
def fnRateMoreSpec : ChangeSpec := { name := "fnRateMore", fn := fun _ => fun
  | [d] => { results := [.lit (.bool true)], args := [d] }
  | _ => none }
def fnRateMoreRow : OpenClaim := { program := "ytdlomcbnnaafbaa", sum := "b1a6e1626abd5a004b8e2a61d2a12e512c46c672a7fbca6721b514506cf8af50", func := "loop.example/serialpair/laws.FnRateMore", spec := "fnRateMore", apart := false }
def FnRateMoreSaid : Prop := fnRateMoreRow.holds Try.pinned (OpenSpec.ofChange fnRateMoreSpec)

/-- ITS FALSE NEIGHBOUR: 'it returns false'. Refute it at one input. -/
def fnRateMoreWrong : ChangeSpec := { name := "fnRateMore", fn := fun _ => fun
  | [d] => { results := [.lit (.bool false)], args := [d] }
  | _ => none }
def FnRateMoreWrongFalsely : Prop := fnRateMoreRow.holds Try.pinned (OpenSpec.ofChange fnRateMoreWrong)

/-- 'laws.FnExactRatesAgree': WHATEVER THE INPUT: true; the input reads as it did. -/
def fnExactRatesAgreeSpec : ChangeSpec := { name := "fnExactRatesAgree", fn := fun _ => fun
  | [d1, d2, d3] => { results := [.lit (.bool true)], args := [d1, d2, d3] }
  | _ => none }
def fnExactRatesAgreeRow : OpenClaim := { program := "ytdlomcbnnaafbaa", sum := "b1a6e1626abd5a004b8e2a61d2a12e512c46c672a7fbca6721b514506cf8af50", func := "loop.example/serialpair/laws.FnExactRatesAgree", spec := "fnExactRatesAgree", apart := false }
def FnExactRatesAgreeSaid : Prop := fnExactRatesAgreeRow.holds Try.pinned (OpenSpec.ofChange fnExactRatesAgreeSpec)

/-- ITS FALSE NEIGHBOUR: 'it returns false'. Refute it at one input. -/
def fnExactRatesAgreeWrong : ChangeSpec := { name := "fnExactRatesAgree", fn := fun _ => fun
  | [d1, d2, d3] => { results := [.lit (.bool false)], args := [d1, d2, d3] }
  | _ => none }
def FnExactRatesAgreeWrongFalsely : Prop := fnExactRatesAgreeRow.holds Try.pinned (OpenSpec.ofChange fnExactRatesAgreeWrong)

/-- 'laws.FnDivisorRate': WHATEVER THE INPUT: true; the input reads as it did. -/
def fnDivisorRateSpec : ChangeSpec := { name := "fnDivisorRate", fn := fun _ => fun
  | [d] => { results := [.lit (.bool true)], args := [d] }
  | _ => none }
def fnDivisorRateRow : OpenClaim := { program := "ytdlomcbnnaafbaa", sum := "b1a6e1626abd5a004b8e2a61d2a12e512c46c672a7fbca6721b514506cf8af50", func := "loop.example/serialpair/laws.FnDivisorRate", spec := "fnDivisorRate", apart := false }
def FnDivisorRateSaid : Prop := fnDivisorRateRow.holds Try.pinned (OpenSpec.ofChange fnDivisorRateSpec)

/-- ITS FALSE NEIGHBOUR: 'it returns false'. Refute it at one input. -/
def fnDivisorRateWrong : ChangeSpec := { name := "fnDivisorRate", fn := fun _ => fun
  | [d] => { results := [.lit (.bool false)], args := [d] }
  | _ => none }
def FnDivisorRateWrongFalsely : Prop := fnDivisorRateRow.holds Try.pinned (OpenSpec.ofChange fnDivisorRateWrong)

/-- 'laws.FnAgree': WHATEVER THE INPUT: true; the input reads as it did. -/
def fnAgreeSpec : ChangeSpec := { name := "fnAgree", fn := fun _ => fun
  | [d] => { results := [.lit (.bool true)], args := [d] }
  | _ => none }
def fnAgreeRow : OpenClaim := { program := "ytdlomcbnnaafbaa", sum := "b1a6e1626abd5a004b8e2a61d2a12e512c46c672a7fbca6721b514506cf8af50", func := "loop.example/serialpair/laws.FnAgree", spec := "fnAgree", apart := false }
def FnAgreeSaid : Prop := fnAgreeRow.holds Try.pinned (OpenSpec.ofChange fnAgreeSpec)

/-- ITS FALSE NEIGHBOUR: 'it returns false'. Refute it at one input. -/
def fnAgreeWrong : ChangeSpec := { name := "fnAgree", fn := fun _ => fun
  | [d] => { results := [.lit (.bool false)], args := [d] }
  | _ => none }
def FnAgreeWrongFalsely : Prop := fnAgreeRow.holds Try.pinned (OpenSpec.ofChange fnAgreeWrong)

/-- 'laws.FnAgreeLong': WHATEVER THE INPUT: true; the input reads as it did. -/
def fnAgreeLongSpec : ChangeSpec := { name := "fnAgreeLong", fn := fun _ => fun
  | [d] => { results := [.lit (.bool true)], args := [d] }
  | _ => none }
def fnAgreeLongRow : OpenClaim := { program := "ytdlomcbnnaafbaa", sum := "b1a6e1626abd5a004b8e2a61d2a12e512c46c672a7fbca6721b514506cf8af50", func := "loop.example/serialpair/laws.FnAgreeLong", spec := "fnAgreeLong", apart := false }
def FnAgreeLongSaid : Prop := fnAgreeLongRow.holds Try.pinned (OpenSpec.ofChange fnAgreeLongSpec)

/-- ITS FALSE NEIGHBOUR: 'it returns false'. Refute it at one input. -/
def fnAgreeLongWrong : ChangeSpec := { name := "fnAgreeLong", fn := fun _ => fun
  | [d] => { results := [.lit (.bool false)], args := [d] }
  | _ => none }
def FnAgreeLongWrongFalsely : Prop := fnAgreeLongRow.holds Try.pinned (OpenSpec.ofChange fnAgreeLongWrong)

/- THE SECOND FORM. 'bulk': how many values and letters a reading holds, each counted each time it is reached (what is shared counts as often as it is met; a slice's spare places count too). A statement '..UptoSaid' is the law's where the arguments, and the package variables that the reading takes, are together of bulk at most 1048576: NARROWER than '..Said'. Prove '..Said' where nothing that the law and all that it calls make is longer than what came in: it says more and counts as full. Else prove '..UptoSaid'. A law counts once. -/
mutual
def uptoBulk {H : Type} : DataW H → Nat
  | .lit (.string bytes) => bytes.length + 1
  | .lit _ => 1
  | .nil => 1
  | .ptr d => uptoBulk d + 1
  | .slice elems spare => uptoBulkAll elems + uptoBulkAll spare + 1
  | .agg parts => uptoBulkAll parts + 1
  | .iface _ d => uptoBulk d + 1
  | .map entries => uptoBulkEntries entries + 1
  | .held _ => 1
def uptoBulkAll {H : Type} : List (DataW H) → Nat
  | [] => 0
  | d :: r => uptoBulk d + uptoBulkAll r
def uptoBulkEntries {H : Type} : List (Lit × DataW H) → Nat
  | [] => 0
  | x :: r => uptoBulkEntry x + uptoBulkEntries r
def uptoBulkEntry {H : Type} : Lit × DataW H → Nat
  | (.string bytes, d) => bytes.length + uptoBulk d + 1
  | (_, d) => uptoBulk d + 1
 end
def uptoSmall : (H : Type) → List (DataW H) → Bool := fun _ ds => decide (uptoBulkAll ds ≤ 1048576)
def OpenSpec.upto (s : _root_.Go.ChangeSpec) : _root_.Go.OpenSpec := { _root_.Go.OpenSpec.ofChange s with cond := some uptoSmall }

/-- 'laws.FnExactRateOf', WHERE WHAT IT READS IS OF BULK AT MOST 1048576: true; the input reads as it did. -/
def fnExactRateOfUptoRow : OpenClaim := { program := "ytdlomcbnnaafbaa", sum := "b1a6e1626abd5a004b8e2a61d2a12e512c46c672a7fbca6721b514506cf8af50", func := "loop.example/serialpair/laws.FnExactRateOf", spec := "fnExactRateOf", apart := false, narrowed := true }
def FnExactRateOfUptoSaid : Prop := fnExactRateOfUptoRow.holds Try.pinned (OpenSpec.upto fnExactRateOfSpec)

/-- 'laws.FnRate', WHERE WHAT IT READS IS OF BULK AT MOST 1048576: true; the input reads as it did. -/
def fnRateUptoRow : OpenClaim := { program := "ytdlomcbnnaafbaa", sum := "b1a6e1626abd5a004b8e2a61d2a12e512c46c672a7fbca6721b514506cf8af50", func := "loop.example/serialpair/laws.FnRate", spec := "fnRate", apart := false, narrowed := true }
def FnRateUptoSaid : Prop := fnRateUptoRow.holds Try.pinned (OpenSpec.upto fnRateSpec)

/-- 'laws.FnRateMore', WHERE WHAT IT READS IS OF BULK AT MOST 1048576: true; the input reads as it did. -/
def fnRateMoreUptoRow : OpenClaim := { program := "ytdlomcbnnaafbaa", sum := "b1a6e1626abd5a004b8e2a61d2a12e512c46c672a7fbca6721b514506cf8af50", func := "loop.example/serialpair/laws.FnRateMore", spec := "fnRateMore", apart := false, narrowed := true }
def FnRateMoreUptoSaid : Prop := fnRateMoreUptoRow.holds Try.pinned (OpenSpec.upto fnRateMoreSpec)

/-- 'laws.FnExactRatesAgree', WHERE WHAT IT READS IS OF BULK AT MOST 1048576: true; the input reads as it did. -/
def fnExactRatesAgreeUptoRow : OpenClaim := { program := "ytdlomcbnnaafbaa", sum := "b1a6e1626abd5a004b8e2a61d2a12e512c46c672a7fbca6721b514506cf8af50", func := "loop.example/serialpair/laws.FnExactRatesAgree", spec := "fnExactRatesAgree", apart := false, narrowed := true }
def FnExactRatesAgreeUptoSaid : Prop := fnExactRatesAgreeUptoRow.holds Try.pinned (OpenSpec.upto fnExactRatesAgreeSpec)

/-- 'laws.FnDivisorRate', WHERE WHAT IT READS IS OF BULK AT MOST 1048576: true; the input reads as it did. -/
def fnDivisorRateUptoRow : OpenClaim := { program := "ytdlomcbnnaafbaa", sum := "b1a6e1626abd5a004b8e2a61d2a12e512c46c672a7fbca6721b514506cf8af50", func := "loop.example/serialpair/laws.FnDivisorRate", spec := "fnDivisorRate", apart := false, narrowed := true }
def FnDivisorRateUptoSaid : Prop := fnDivisorRateUptoRow.holds Try.pinned (OpenSpec.upto fnDivisorRateSpec)

/-- 'laws.FnAgree', WHERE WHAT IT READS IS OF BULK AT MOST 1048576: true; the input reads as it did. -/
def fnAgreeUptoRow : OpenClaim := { program := "ytdlomcbnnaafbaa", sum := "b1a6e1626abd5a004b8e2a61d2a12e512c46c672a7fbca6721b514506cf8af50", func := "loop.example/serialpair/laws.FnAgree", spec := "fnAgree", apart := false, narrowed := true }
def FnAgreeUptoSaid : Prop := fnAgreeUptoRow.holds Try.pinned (OpenSpec.upto fnAgreeSpec)

/-- 'laws.FnAgreeLong', WHERE WHAT IT READS IS OF BULK AT MOST 1048576: true; the input reads as it did. -/
def fnAgreeLongUptoRow : OpenClaim := { program := "ytdlomcbnnaafbaa", sum := "b1a6e1626abd5a004b8e2a61d2a12e512c46c672a7fbca6721b514506cf8af50", func := "loop.example/serialpair/laws.FnAgreeLong", spec := "fnAgreeLong", apart := false, narrowed := true }
def FnAgreeLongUptoSaid : Prop := fnAgreeLongUptoRow.holds Try.pinned (OpenSpec.upto fnAgreeLongSpec)

end Rows
end Go.Proofs.Ytdlomcbnnaafbaa
