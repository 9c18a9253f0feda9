/-
  No cell of these rows narrows 'for every input' (looked for: loops, veiled, ifaces, maps, wideKeys, modest, calm, conditions, laid).
  DERIVED. THE GIVEN ROWS OF THIS SEAT. 11 by the template 'for every input the law returns true; each argument reads behind the call as it read before'; 0 by the template 'total and deterministic' (their statements: YtpbhidlglcmlnaaTotals.lean).
  GIVEN WITH THE SEED: the statements are not yours to turn. If you find one false, say at which input.
  Laid BY PROGRAM, IN A SANDBOX (cutbox-rows.mjs): the forced cells as the released guide's own fill.sh prints them over the translation b8e68687e23c4baf… (all of the seat's roots in one cut). By AI agents, Wed Nov 11 2026. No macro, syntax, notation, axiom, sorry.
-/
import Derived.Test.YtpbhidlglcmlnaaChecked
import GoSem.Claim
import GoSem.ClaimJoined
import GoSem.ClaimMapViews
import Derived.JoinedTies
import Derived.KernelRfl
namespace Go.Proofs.Ytpbhidlglcmlnaa
/- THE CELL 'sum', in the pinned program and in every row, IS THE sha256 OF THE DUMP (.gsa) THAT YtpbhidlglcmlnaaProg.lean LOADS. Nothing in Lean hashes anything: it is a label: what it is worth is what the hold of that sum in a sandbox is worth. -/
noncomputable def Try.pinned : Pinned := { name := "ytpbhidlglcmlnaa", sum := "b8e68687e23c4baf7bbdeeeeabf82e8531a2d5c086451011b42bbc7d80b7f250", checked := Try.checked }
namespace Rows
def none {H : Type} : Left H := { results := [], args := [] }

/-- 'laws.FnExactPortNew': WHATEVER THE INPUT: true; the input reads as it did. -/
def fnExactPortNewSpec : ChangeSpec := { name := "fnExactPortNew", fn := fun _ => fun
  | [d1, d2] => { results := [.lit (.bool true)], args := [d1, d2] }
  | _ => none }
def fnExactPortNewRow : OpenClaim := { program := "ytpbhidlglcmlnaa", sum := "b8e68687e23c4baf7bbdeeeeabf82e8531a2d5c086451011b42bbc7d80b7f250", func := "loop.example/serialpair/laws.FnExactPortNew", spec := "fnExactPortNew", apart := false }
def FnExactPortNewSaid : Prop := fnExactPortNewRow.holds Try.pinned (OpenSpec.ofChange fnExactPortNewSpec)

/-- ITS FALSE NEIGHBOUR: 'it returns false'. Refute it at one input. -/
def fnExactPortNewWrong : ChangeSpec := { name := "fnExactPortNew", fn := fun _ => fun
  | [d1, d2] => { results := [.lit (.bool false)], args := [d1, d2] }
  | _ => none }
def FnExactPortNewWrongFalsely : Prop := fnExactPortNewRow.holds Try.pinned (OpenSpec.ofChange fnExactPortNewWrong)

/-- 'laws.FnExactPortValid': WHATEVER THE INPUT: true; the input reads as it did. -/
def fnExactPortValidSpec : ChangeSpec := { name := "fnExactPortValid", fn := fun _ => fun
  | [d] => { results := [.lit (.bool true)], args := [d] }
  | _ => none }
def fnExactPortValidRow : OpenClaim := { program := "ytpbhidlglcmlnaa", sum := "b8e68687e23c4baf7bbdeeeeabf82e8531a2d5c086451011b42bbc7d80b7f250", func := "loop.example/serialpair/laws.FnExactPortValid", spec := "fnExactPortValid", apart := false }
def FnExactPortValidSaid : Prop := fnExactPortValidRow.holds Try.pinned (OpenSpec.ofChange fnExactPortValidSpec)

/-- ITS FALSE NEIGHBOUR: 'it returns false'. Refute it at one input. -/
def fnExactPortValidWrong : ChangeSpec := { name := "fnExactPortValid", fn := fun _ => fun
  | [d] => { results := [.lit (.bool false)], args := [d] }
  | _ => none }
def FnExactPortValidWrongFalsely : Prop := fnExactPortValidRow.holds Try.pinned (OpenSpec.ofChange fnExactPortValidWrong)

/-- 'laws.FnExactPairValid': WHATEVER THE INPUT: true; the input reads as it did. -/
def fnExactPairValidSpec : ChangeSpec := { name := "fnExactPairValid", fn := fun _ => fun
  | [d] => { results := [.lit (.bool true)], args := [d] }
  | _ => none }
def fnExactPairValidRow : OpenClaim := { program := "ytpbhidlglcmlnaa", sum := "b8e68687e23c4baf7bbdeeeeabf82e8531a2d5c086451011b42bbc7d80b7f250", func := "loop.example/serialpair/laws.FnExactPairValid", spec := "fnExactPairValid", apart := false }
def FnExactPairValidSaid : Prop := fnExactPairValidRow.holds Try.pinned (OpenSpec.ofChange fnExactPairValidSpec)

/-- ITS FALSE NEIGHBOUR: 'it returns false'. Refute it at one input. -/
def fnExactPairValidWrong : ChangeSpec := { name := "fnExactPairValid", fn := fun _ => fun
  | [d] => { results := [.lit (.bool false)], args := [d] }
  | _ => none }
def FnExactPairValidWrongFalsely : Prop := fnExactPairValidRow.holds Try.pinned (OpenSpec.ofChange fnExactPairValidWrong)

/-- 'laws.FnExactPairQuiet': WHATEVER THE INPUT: true; the input reads as it did. -/
def fnExactPairQuietSpec : ChangeSpec := { name := "fnExactPairQuiet", fn := fun _ => fun
  | [d] => { results := [.lit (.bool true)], args := [d] }
  | _ => none }
def fnExactPairQuietRow : OpenClaim := { program := "ytpbhidlglcmlnaa", sum := "b8e68687e23c4baf7bbdeeeeabf82e8531a2d5c086451011b42bbc7d80b7f250", func := "loop.example/serialpair/laws.FnExactPairQuiet", spec := "fnExactPairQuiet", apart := false }
def FnExactPairQuietSaid : Prop := fnExactPairQuietRow.holds Try.pinned (OpenSpec.ofChange fnExactPairQuietSpec)

/-- ITS FALSE NEIGHBOUR: 'it returns false'. Refute it at one input. -/
def fnExactPairQuietWrong : ChangeSpec := { name := "fnExactPairQuiet", fn := fun _ => fun
  | [d] => { results := [.lit (.bool false)], args := [d] }
  | _ => none }
def FnExactPairQuietWrongFalsely : Prop := fnExactPairQuietRow.holds Try.pinned (OpenSpec.ofChange fnExactPairQuietWrong)

/-- 'laws.FnExactDriverNew': WHATEVER THE INPUT: true; the input reads as it did. -/
def fnExactDriverNewSpec : ChangeSpec := { name := "fnExactDriverNew", fn := fun _ => fun
  | [d1, d2] => { results := [.lit (.bool true)], args := [d1, d2] }
  | _ => none }
def fnExactDriverNewRow : OpenClaim := { program := "ytpbhidlglcmlnaa", sum := "b8e68687e23c4baf7bbdeeeeabf82e8531a2d5c086451011b42bbc7d80b7f250", func := "loop.example/serialpair/laws.FnExactDriverNew", spec := "fnExactDriverNew", apart := false }
def FnExactDriverNewSaid : Prop := fnExactDriverNewRow.holds Try.pinned (OpenSpec.ofChange fnExactDriverNewSpec)

/-- ITS FALSE NEIGHBOUR: 'it returns false'. Refute it at one input. -/
def fnExactDriverNewWrong : ChangeSpec := { name := "fnExactDriverNew", fn := fun _ => fun
  | [d1, d2] => { results := [.lit (.bool false)], args := [d1, d2] }
  | _ => none }
def FnExactDriverNewWrongFalsely : Prop := fnExactDriverNewRow.holds Try.pinned (OpenSpec.ofChange fnExactDriverNewWrong)

/-- 'laws.FnExactDriverValid': WHATEVER THE INPUT: true; the input reads as it did. -/
def fnExactDriverValidSpec : ChangeSpec := { name := "fnExactDriverValid", fn := fun _ => fun
  | [d] => { results := [.lit (.bool true)], args := [d] }
  | _ => none }
def fnExactDriverValidRow : OpenClaim := { program := "ytpbhidlglcmlnaa", sum := "b8e68687e23c4baf7bbdeeeeabf82e8531a2d5c086451011b42bbc7d80b7f250", func := "loop.example/serialpair/laws.FnExactDriverValid", spec := "fnExactDriverValid", apart := false }
def FnExactDriverValidSaid : Prop := fnExactDriverValidRow.holds Try.pinned (OpenSpec.ofChange fnExactDriverValidSpec)

/-- ITS FALSE NEIGHBOUR: 'it returns false'. Refute it at one input. -/
def fnExactDriverValidWrong : ChangeSpec := { name := "fnExactDriverValid", fn := fun _ => fun
  | [d] => { results := [.lit (.bool false)], args := [d] }
  | _ => none }
def FnExactDriverValidWrongFalsely : Prop := fnExactDriverValidRow.holds Try.pinned (OpenSpec.ofChange fnExactDriverValidWrong)

/-- 'laws.FnExactLinkValid': WHATEVER THE INPUT: true; the input reads as it did. -/
def fnExactLinkValidSpec : ChangeSpec := { name := "fnExactLinkValid", fn := fun _ => fun
  | [d] => { results := [.lit (.bool true)], args := [d] }
  | _ => none }
def fnExactLinkValidRow : OpenClaim := { program := "ytpbhidlglcmlnaa", sum := "b8e68687e23c4baf7bbdeeeeabf82e8531a2d5c086451011b42bbc7d80b7f250", func := "loop.example/serialpair/laws.FnExactLinkValid", spec := "fnExactLinkValid", apart := false }
def FnExactLinkValidSaid : Prop := fnExactLinkValidRow.holds Try.pinned (OpenSpec.ofChange fnExactLinkValidSpec)

/-- ITS FALSE NEIGHBOUR: 'it returns false'. Refute it at one input. -/
def fnExactLinkValidWrong : ChangeSpec := { name := "fnExactLinkValid", fn := fun _ => fun
  | [d] => { results := [.lit (.bool false)], args := [d] }
  | _ => none }
def FnExactLinkValidWrongFalsely : Prop := fnExactLinkValidRow.holds Try.pinned (OpenSpec.ofChange fnExactLinkValidWrong)

/-- 'laws.FnPortPart': WHATEVER THE INPUT: true; the input reads as it did. -/
def fnPortPartSpec : ChangeSpec := { name := "fnPortPart", fn := fun _ => fun
  | [d] => { results := [.lit (.bool true)], args := [d] }
  | _ => none }
def fnPortPartRow : OpenClaim := { program := "ytpbhidlglcmlnaa", sum := "b8e68687e23c4baf7bbdeeeeabf82e8531a2d5c086451011b42bbc7d80b7f250", func := "loop.example/serialpair/laws.FnPortPart", spec := "fnPortPart", apart := false }
def FnPortPartSaid : Prop := fnPortPartRow.holds Try.pinned (OpenSpec.ofChange fnPortPartSpec)

/-- ITS FALSE NEIGHBOUR: 'it returns false'. Refute it at one input. -/
def fnPortPartWrong : ChangeSpec := { name := "fnPortPart", fn := fun _ => fun
  | [d] => { results := [.lit (.bool false)], args := [d] }
  | _ => none }
def FnPortPartWrongFalsely : Prop := fnPortPartRow.holds Try.pinned (OpenSpec.ofChange fnPortPartWrong)

/-- 'laws.FnPairPart': WHATEVER THE INPUT: true; the input reads as it did. -/
def fnPairPartSpec : ChangeSpec := { name := "fnPairPart", fn := fun _ => fun
  | [d] => { results := [.lit (.bool true)], args := [d] }
  | _ => none }
def fnPairPartRow : OpenClaim := { program := "ytpbhidlglcmlnaa", sum := "b8e68687e23c4baf7bbdeeeeabf82e8531a2d5c086451011b42bbc7d80b7f250", func := "loop.example/serialpair/laws.FnPairPart", spec := "fnPairPart", apart := false }
def FnPairPartSaid : Prop := fnPairPartRow.holds Try.pinned (OpenSpec.ofChange fnPairPartSpec)

/-- ITS FALSE NEIGHBOUR: 'it returns false'. Refute it at one input. -/
def fnPairPartWrong : ChangeSpec := { name := "fnPairPart", fn := fun _ => fun
  | [d] => { results := [.lit (.bool false)], args := [d] }
  | _ => none }
def FnPairPartWrongFalsely : Prop := fnPairPartRow.holds Try.pinned (OpenSpec.ofChange fnPairPartWrong)

/-- 'laws.FnDriverNew': WHATEVER THE INPUT: true; the input reads as it did. -/
def fnDriverNewSpec : ChangeSpec := { name := "fnDriverNew", fn := fun _ => fun
  | [d] => { results := [.lit (.bool true)], args := [d] }
  | _ => none }
def fnDriverNewRow : OpenClaim := { program := "ytpbhidlglcmlnaa", sum := "b8e68687e23c4baf7bbdeeeeabf82e8531a2d5c086451011b42bbc7d80b7f250", func := "loop.example/serialpair/laws.FnDriverNew", spec := "fnDriverNew", apart := false }
def FnDriverNewSaid : Prop := fnDriverNewRow.holds Try.pinned (OpenSpec.ofChange fnDriverNewSpec)

/-- ITS FALSE NEIGHBOUR: 'it returns false'. Refute it at one input. -/
def fnDriverNewWrong : ChangeSpec := { name := "fnDriverNew", fn := fun _ => fun
  | [d] => { results := [.lit (.bool false)], args := [d] }
  | _ => none }
def FnDriverNewWrongFalsely : Prop := fnDriverNewRow.holds Try.pinned (OpenSpec.ofChange fnDriverNewWrong)

/-- 'laws.FnDriverPart': WHATEVER THE INPUT: true; the input reads as it did. -/
def fnDriverPartSpec : ChangeSpec := { name := "fnDriverPart", fn := fun _ => fun
  | [d] => { results := [.lit (.bool true)], args := [d] }
  | _ => none }
def fnDriverPartRow : OpenClaim := { program := "ytpbhidlglcmlnaa", sum := "b8e68687e23c4baf7bbdeeeeabf82e8531a2d5c086451011b42bbc7d80b7f250", func := "loop.example/serialpair/laws.FnDriverPart", spec := "fnDriverPart", apart := false }
def FnDriverPartSaid : Prop := fnDriverPartRow.holds Try.pinned (OpenSpec.ofChange fnDriverPartSpec)

/-- ITS FALSE NEIGHBOUR: 'it returns false'. Refute it at one input. -/
def fnDriverPartWrong : ChangeSpec := { name := "fnDriverPart", fn := fun _ => fun
  | [d] => { results := [.lit (.bool false)], args := [d] }
  | _ => none }
def FnDriverPartWrongFalsely : Prop := fnDriverPartRow.holds Try.pinned (OpenSpec.ofChange fnDriverPartWrong)

/- THE SECOND FORM. 'bulk': how many values and letters a reading holds, each counted each time it is reached (what is shared counts as often as it is met; a slice's spare places count too). A statement '..UptoSaid' is the law's where the arguments, and the package variables that the reading takes, are together of bulk at most 1048576: NARROWER than '..Said'. Prove '..Said' where nothing that the law and all that it calls make is longer than what came in: it says more and counts as full. Else prove '..UptoSaid'. A law counts once. -/
mutual
def uptoBulk {H : Type} : DataW H → Nat
  | .lit (.string bytes) => bytes.length + 1
  | .lit _ => 1
  | .nil => 1
  | .ptr d => uptoBulk d + 1
  | .slice elems spare => uptoBulkAll elems + uptoBulkAll spare + 1
  | .agg parts => uptoBulkAll parts + 1
  | .iface _ d => uptoBulk d + 1
  | .map entries => uptoBulkEntries entries + 1
  | .held _ => 1
def uptoBulkAll {H : Type} : List (DataW H) → Nat
  | [] => 0
  | d :: r => uptoBulk d + uptoBulkAll r
def uptoBulkEntries {H : Type} : List (Lit × DataW H) → Nat
  | [] => 0
  | x :: r => uptoBulkEntry x + uptoBulkEntries r
def uptoBulkEntry {H : Type} : Lit × DataW H → Nat
  | (.string bytes, d) => bytes.length + uptoBulk d + 1
  | (_, d) => uptoBulk d + 1
 end
def uptoSmall : (H : Type) → List (DataW H) → Bool := fun _ ds => decide (uptoBulkAll ds ≤ 1048576)
def OpenSpec.upto (s : _root_.Go.ChangeSpec) : _root_.Go.OpenSpec := { _root_.Go.OpenSpec.ofChange s with cond := some uptoSmall }

/-- 'laws.FnExactPortNew', WHERE WHAT IT READS IS OF BULK AT MOST 1048576: true; the input reads as it did. -/
def fnExactPortNewUptoRow : OpenClaim := { program := "ytpbhidlglcmlnaa", sum := "b8e68687e23c4baf7bbdeeeeabf82e8531a2d5c086451011b42bbc7d80b7f250", func := "loop.example/serialpair/laws.FnExactPortNew", spec := "fnExactPortNew", apart := false, narrowed := true }
def FnExactPortNewUptoSaid : Prop := fnExactPortNewUptoRow.holds Try.pinned (OpenSpec.upto fnExactPortNewSpec)

/-- 'laws.FnExactPortValid', WHERE WHAT IT READS IS OF BULK AT MOST 1048576: true; the input reads as it did. -/
def fnExactPortValidUptoRow : OpenClaim := { program := "ytpbhidlglcmlnaa", sum := "b8e68687e23c4baf7bbdeeeeabf82e8531a2d5c086451011b42bbc7d80b7f250", func := "loop.example/serialpair/laws.FnExactPortValid", spec := "fnExactPortValid", apart := false, narrowed := true }
def FnExactPortValidUptoSaid : Prop := fnExactPortValidUptoRow.holds Try.pinned (OpenSpec.upto fnExactPortValidSpec)

/-- 'laws.FnExactPairValid', WHERE WHAT IT READS IS OF BULK AT MOST 1048576: true; the input reads as it did. -/
def fnExactPairValidUptoRow : OpenClaim := { program := "ytpbhidlglcmlnaa", sum := "b8e68687e23c4baf7bbdeeeeabf82e8531a2d5c086451011b42bbc7d80b7f250", func := "loop.example/serialpair/laws.FnExactPairValid", spec := "fnExactPairValid", apart := false, narrowed := true }
def FnExactPairValidUptoSaid : Prop := fnExactPairValidUptoRow.holds Try.pinned (OpenSpec.upto fnExactPairValidSpec)

/-- 'laws.FnExactPairQuiet', WHERE WHAT IT READS IS OF BULK AT MOST 1048576: true; the input reads as it did. -/
def fnExactPairQuietUptoRow : OpenClaim := { program := "ytpbhidlglcmlnaa", sum := "b8e68687e23c4baf7bbdeeeeabf82e8531a2d5c086451011b42bbc7d80b7f250", func := "loop.example/serialpair/laws.FnExactPairQuiet", spec := "fnExactPairQuiet", apart := false, narrowed := true }
def FnExactPairQuietUptoSaid : Prop := fnExactPairQuietUptoRow.holds Try.pinned (OpenSpec.upto fnExactPairQuietSpec)

/-- 'laws.FnExactDriverNew', WHERE WHAT IT READS IS OF BULK AT MOST 1048576: true; the input reads as it did. -/
def fnExactDriverNewUptoRow : OpenClaim := { program := "ytpbhidlglcmlnaa", sum := "b8e68687e23c4baf7bbdeeeeabf82e8531a2d5c086451011b42bbc7d80b7f250", func := "loop.example/serialpair/laws.FnExactDriverNew", spec := "fnExactDriverNew", apart := false, narrowed := true }
def FnExactDriverNewUptoSaid : Prop := fnExactDriverNewUptoRow.holds Try.pinned (OpenSpec.upto fnExactDriverNewSpec)

/-- 'laws.FnExactDriverValid', WHERE WHAT IT READS IS OF BULK AT MOST 1048576: true; the input reads as it did. -/
def fnExactDriverValidUptoRow : OpenClaim := { program := "ytpbhidlglcmlnaa", sum := "b8e68687e23c4baf7bbdeeeeabf82e8531a2d5c086451011b42bbc7d80b7f250", func := "loop.example/serialpair/laws.FnExactDriverValid", spec := "fnExactDriverValid", apart := false, narrowed := true }
def FnExactDriverValidUptoSaid : Prop := fnExactDriverValidUptoRow.holds Try.pinned (OpenSpec.upto fnExactDriverValidSpec)

/-- 'laws.FnExactLinkValid', WHERE WHAT IT READS IS OF BULK AT MOST 1048576: true; the input reads as it did. -/
def fnExactLinkValidUptoRow : OpenClaim := { program := "ytpbhidlglcmlnaa", sum := "b8e68687e23c4baf7bbdeeeeabf82e8531a2d5c086451011b42bbc7d80b7f250", func := "loop.example/serialpair/laws.FnExactLinkValid", spec := "fnExactLinkValid", apart := false, narrowed := true }
def FnExactLinkValidUptoSaid : Prop := fnExactLinkValidUptoRow.holds Try.pinned (OpenSpec.upto fnExactLinkValidSpec)

/-- 'laws.FnPortPart', WHERE WHAT IT READS IS OF BULK AT MOST 1048576: true; the input reads as it did. -/
def fnPortPartUptoRow : OpenClaim := { program := "ytpbhidlglcmlnaa", sum := "b8e68687e23c4baf7bbdeeeeabf82e8531a2d5c086451011b42bbc7d80b7f250", func := "loop.example/serialpair/laws.FnPortPart", spec := "fnPortPart", apart := false, narrowed := true }
def FnPortPartUptoSaid : Prop := fnPortPartUptoRow.holds Try.pinned (OpenSpec.upto fnPortPartSpec)

/-- 'laws.FnPairPart', WHERE WHAT IT READS IS OF BULK AT MOST 1048576: true; the input reads as it did. -/
def fnPairPartUptoRow : OpenClaim := { program := "ytpbhidlglcmlnaa", sum := "b8e68687e23c4baf7bbdeeeeabf82e8531a2d5c086451011b42bbc7d80b7f250", func := "loop.example/serialpair/laws.FnPairPart", spec := "fnPairPart", apart := false, narrowed := true }
def FnPairPartUptoSaid : Prop := fnPairPartUptoRow.holds Try.pinned (OpenSpec.upto fnPairPartSpec)

/-- 'laws.FnDriverNew', WHERE WHAT IT READS IS OF BULK AT MOST 1048576: true; the input reads as it did. -/
def fnDriverNewUptoRow : OpenClaim := { program := "ytpbhidlglcmlnaa", sum := "b8e68687e23c4baf7bbdeeeeabf82e8531a2d5c086451011b42bbc7d80b7f250", func := "loop.example/serialpair/laws.FnDriverNew", spec := "fnDriverNew", apart := false, narrowed := true }
def FnDriverNewUptoSaid : Prop := fnDriverNewUptoRow.holds Try.pinned (OpenSpec.upto fnDriverNewSpec)

/-- 'laws.FnDriverPart', WHERE WHAT IT READS IS OF BULK AT MOST 1048576: true; the input reads as it did. -/
def fnDriverPartUptoRow : OpenClaim := { program := "ytpbhidlglcmlnaa", sum := "b8e68687e23c4baf7bbdeeeeabf82e8531a2d5c086451011b42bbc7d80b7f250", func := "loop.example/serialpair/laws.FnDriverPart", spec := "fnDriverPart", apart := false, narrowed := true }
def FnDriverPartUptoSaid : Prop := fnDriverPartUptoRow.holds Try.pinned (OpenSpec.upto fnDriverPartSpec)

end Rows
end Go.Proofs.Ytpbhidlglcmlnaa
