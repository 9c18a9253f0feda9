/-
  DERIVED. GIVEN WITH THE SEED: THE CARDS: each row of YtoeajbnjenceaaaDoorRows.lean that lists a variable, with what it lists TIED to the program's text (the seventh form; the later family's looks); each row that meets fmt, with fmt's text TOLD by the authors' own Lean function (tested against real Go, not proved from fmt's source: count such statements apart). THE CARD IS WHAT COUNTS. Prove the row's statement (the work); the ties are given (YtoeajbnjenceaaaDoorTie.lean); close each card by the builder's one call (the guide's Derived/Test/ToyasCard.lean, 'card_holds'). Laid BY PROGRAM, IN A SANDBOX (cutbox-door.mjs). By AI agents, Wed Nov 11 2026. No macro, syntax, notation, axiom, sorry.
-/
import Derived.Test.YtoeajbnjenceaaaDoorRows
import GoSem.ClaimSeven
namespace Go.Proofs.YtoeajbnjenceaaaDoor
namespace Rows

/-- THE TIED CARD OF 'laws.FnExactPacketsFrom'. -/
def fnExactPacketsFromCard : Claim7 := { stood := { row := fnExactPacketsFromRow, standIns := [], harness := (true, "2af0525b1d22214d715601b1bf344cbaad02293c4ca456e9abca6d63693d70ed"), looks := true }, kinds := [], alts := [], laidByText := true, laidKinds := [.handle], laidTests := true, laidLooks := .later }
def FnExactPacketsFromCardSaid : Prop := Claim7.holds Tryd.pinned (.plain (OpenSpec.ofChange fnExactPacketsFromSpec)) fnExactPacketsFromCard

/-- THE TIED CARD OF 'laws.FnPacket'. -/
def fnPacketCard : Claim7 := { stood := { row := fnPacketRow, standIns := [], harness := (true, "2af0525b1d22214d715601b1bf344cbaad02293c4ca456e9abca6d63693d70ed"), looks := true }, kinds := [], alts := [], laidByText := true, laidKinds := [.handle], laidTests := true, laidLooks := .later }
def FnPacketCardSaid : Prop := Claim7.holds Tryd.pinned (.plain (OpenSpec.ofChange fnPacketSpec)) fnPacketCard

/-- THE TIED CARD OF 'laws.FnPackets'. -/
def fnPacketsCard : Claim7 := { stood := { row := fnPacketsRow, standIns := [], harness := (true, "2af0525b1d22214d715601b1bf344cbaad02293c4ca456e9abca6d63693d70ed"), looks := true }, kinds := [], alts := [], laidByText := true, laidKinds := [.handle], laidTests := true, laidLooks := .later }
def FnPacketsCardSaid : Prop := Claim7.holds Tryd.pinned (.plain (OpenSpec.ofChange fnPacketsSpec)) fnPacketsCard

/-- THE TIED CARD OF 'laws.FnPacketEndAhead'. -/
def fnPacketEndAheadCard : Claim7 := { stood := { row := fnPacketEndAheadRow, standIns := [], harness := (true, "2af0525b1d22214d715601b1bf344cbaad02293c4ca456e9abca6d63693d70ed"), looks := true }, kinds := [], alts := [], laidByText := true, laidKinds := [.handle], laidTests := true, laidLooks := .later }
def FnPacketEndAheadCardSaid : Prop := Claim7.holds Tryd.pinned (.plain (OpenSpec.ofChange fnPacketEndAheadSpec)) fnPacketEndAheadCard

/-- THE TIED CARD OF 'laws.FnPacketsEnds'. -/
def fnPacketsEndsCard : Claim7 := { stood := { row := fnPacketsEndsRow, standIns := [], harness := (true, "2af0525b1d22214d715601b1bf344cbaad02293c4ca456e9abca6d63693d70ed"), looks := true }, kinds := [], alts := [], laidByText := true, laidKinds := [.handle], laidTests := true, laidLooks := .later }
def FnPacketsEndsCardSaid : Prop := Claim7.holds Tryd.pinned (.plain (OpenSpec.ofChange fnPacketsEndsSpec)) fnPacketsEndsCard

/-- THE TIED CARD OF 'laws.FnPacketsFrom'. -/
def fnPacketsFromCard : Claim7 := { stood := { row := fnPacketsFromRow, standIns := [], harness := (true, "2af0525b1d22214d715601b1bf344cbaad02293c4ca456e9abca6d63693d70ed"), looks := true }, kinds := [], alts := [], laidByText := true, laidKinds := [.handle], laidTests := true, laidLooks := .later }
def FnPacketsFromCardSaid : Prop := Claim7.holds Tryd.pinned (.plain (OpenSpec.ofChange fnPacketsFromSpec)) fnPacketsFromCard

/-- THE TIED CARD OF 'laws.FnPacketsFromParts'. -/
def fnPacketsFromPartsCard : Claim7 := { stood := { row := fnPacketsFromPartsRow, standIns := [], harness := (true, "2af0525b1d22214d715601b1bf344cbaad02293c4ca456e9abca6d63693d70ed"), looks := true }, kinds := [], alts := [], laidByText := true, laidKinds := [.handle], laidTests := true, laidLooks := .later }
def FnPacketsFromPartsCardSaid : Prop := Claim7.holds Tryd.pinned (.plain (OpenSpec.ofChange fnPacketsFromPartsSpec)) fnPacketsFromPartsCard

/-- THE SECOND FORM's CARD OF 'laws.FnExactPacketsFrom'. -/
def fnExactPacketsFromUptoCard : Claim7 := { stood := { row := fnExactPacketsFromUptoRow, standIns := [], harness := (true, "2af0525b1d22214d715601b1bf344cbaad02293c4ca456e9abca6d63693d70ed"), looks := true }, kinds := [], alts := [], laidByText := true, laidKinds := [.handle], laidTests := true, laidLooks := .later }
def FnExactPacketsFromUptoCardSaid : Prop := Claim7.holds Tryd.pinned (.plain (OpenSpec.upto fnExactPacketsFromSpec)) fnExactPacketsFromUptoCard

/-- THE SECOND FORM's CARD OF 'laws.FnPacket'. -/
def fnPacketUptoCard : Claim7 := { stood := { row := fnPacketUptoRow, standIns := [], harness := (true, "2af0525b1d22214d715601b1bf344cbaad02293c4ca456e9abca6d63693d70ed"), looks := true }, kinds := [], alts := [], laidByText := true, laidKinds := [.handle], laidTests := true, laidLooks := .later }
def FnPacketUptoCardSaid : Prop := Claim7.holds Tryd.pinned (.plain (OpenSpec.upto fnPacketSpec)) fnPacketUptoCard

/-- THE SECOND FORM's CARD OF 'laws.FnPackets'. -/
def fnPacketsUptoCard : Claim7 := { stood := { row := fnPacketsUptoRow, standIns := [], harness := (true, "2af0525b1d22214d715601b1bf344cbaad02293c4ca456e9abca6d63693d70ed"), looks := true }, kinds := [], alts := [], laidByText := true, laidKinds := [.handle], laidTests := true, laidLooks := .later }
def FnPacketsUptoCardSaid : Prop := Claim7.holds Tryd.pinned (.plain (OpenSpec.upto fnPacketsSpec)) fnPacketsUptoCard

/-- THE SECOND FORM's CARD OF 'laws.FnPacketEndAhead'. -/
def fnPacketEndAheadUptoCard : Claim7 := { stood := { row := fnPacketEndAheadUptoRow, standIns := [], harness := (true, "2af0525b1d22214d715601b1bf344cbaad02293c4ca456e9abca6d63693d70ed"), looks := true }, kinds := [], alts := [], laidByText := true, laidKinds := [.handle], laidTests := true, laidLooks := .later }
def FnPacketEndAheadUptoCardSaid : Prop := Claim7.holds Tryd.pinned (.plain (OpenSpec.upto fnPacketEndAheadSpec)) fnPacketEndAheadUptoCard

/-- THE SECOND FORM's CARD OF 'laws.FnPacketsEnds'. -/
def fnPacketsEndsUptoCard : Claim7 := { stood := { row := fnPacketsEndsUptoRow, standIns := [], harness := (true, "2af0525b1d22214d715601b1bf344cbaad02293c4ca456e9abca6d63693d70ed"), looks := true }, kinds := [], alts := [], laidByText := true, laidKinds := [.handle], laidTests := true, laidLooks := .later }
def FnPacketsEndsUptoCardSaid : Prop := Claim7.holds Tryd.pinned (.plain (OpenSpec.upto fnPacketsEndsSpec)) fnPacketsEndsUptoCard

/-- THE SECOND FORM's CARD OF 'laws.FnPacketsFrom'. -/
def fnPacketsFromUptoCard : Claim7 := { stood := { row := fnPacketsFromUptoRow, standIns := [], harness := (true, "2af0525b1d22214d715601b1bf344cbaad02293c4ca456e9abca6d63693d70ed"), looks := true }, kinds := [], alts := [], laidByText := true, laidKinds := [.handle], laidTests := true, laidLooks := .later }
def FnPacketsFromUptoCardSaid : Prop := Claim7.holds Tryd.pinned (.plain (OpenSpec.upto fnPacketsFromSpec)) fnPacketsFromUptoCard

/-- THE SECOND FORM's CARD OF 'laws.FnPacketsFromParts'. -/
def fnPacketsFromPartsUptoCard : Claim7 := { stood := { row := fnPacketsFromPartsUptoRow, standIns := [], harness := (true, "2af0525b1d22214d715601b1bf344cbaad02293c4ca456e9abca6d63693d70ed"), looks := true }, kinds := [], alts := [], laidByText := true, laidKinds := [.handle], laidTests := true, laidLooks := .later }
def FnPacketsFromPartsUptoCardSaid : Prop := Claim7.holds Tryd.pinned (.plain (OpenSpec.upto fnPacketsFromPartsSpec)) fnPacketsFromPartsUptoCard
end Rows
end Go.Proofs.YtoeajbnjenceaaaDoor
