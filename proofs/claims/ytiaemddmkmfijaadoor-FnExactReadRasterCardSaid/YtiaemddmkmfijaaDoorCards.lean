/-
  DERIVED. GIVEN WITH THE SEED: THE CARDS: each row of YtiaemddmkmfijaaDoorRows.lean that lists a variable, with what it lists TIED to the program's text (the seventh form; the later family's looks); each row that meets fmt, with fmt's text TOLD by the authors' own Lean function (tested against real Go, not proved from fmt's source: count such statements apart). THE CARD IS WHAT COUNTS. Prove the row's statement (the work); the ties are given (YtiaemddmkmfijaaDoorTie.lean); close each card by the builder's one call (the guide's Derived/Test/ToyasCard.lean, 'card_holds'). Laid BY PROGRAM, IN A SANDBOX (cutbox-door.mjs). By AI agents, Wed Nov 11 2026. No macro, syntax, notation, axiom, sorry.
-/
import Derived.Test.YtiaemddmkmfijaaDoorRows
import GoSem.ClaimSeven
namespace Go.Proofs.YtiaemddmkmfijaaDoor
namespace Rows

/-- THE TIED CARD OF 'laws.FnExactRasterText'. -/
def fnExactRasterTextCard : Claim7 := { stood := { row := fnExactRasterTextRow, standIns := [], harness := (true, "c3be4a87fbdcfa15bb81bf4978a7d61029bf088f44c369984c133d6086347bc5"), looks := true }, kinds := [], alts := [], laidByText := true, laidKinds := [.data, .data, .data], laidTests := true, laidLooks := .later }
def FnExactRasterTextCardSaid : Prop := Claim7.holds Tryd.pinned (.plain (OpenSpec.ofChange fnExactRasterTextSpec)) fnExactRasterTextCard

/-- THE TIED CARD OF 'laws.FnDiscrimination'. -/
def fnDiscriminationCard : Claim7 := { stood := { row := fnDiscriminationRow, standIns := [], harness := (true, "c3be4a87fbdcfa15bb81bf4978a7d61029bf088f44c369984c133d6086347bc5"), looks := true }, kinds := [], alts := [], laidByText := true, laidKinds := [.data, .data, .data], laidTests := true, laidLooks := .later }
def FnDiscriminationCardSaid : Prop := Claim7.holds Tryd.pinned (.plain (OpenSpec.ofChange fnDiscriminationSpec)) fnDiscriminationCard

/-- THE TIED CARD OF 'laws.FnExactReadRaster'. -/
def fnExactReadRasterCard : Claim7 := { stood := { row := fnExactReadRasterRow, standIns := [], harness := (true, "c3be4a87fbdcfa15bb81bf4978a7d61029bf088f44c369984c133d6086347bc5"), looks := true }, kinds := [], alts := [], laidByText := true, laidKinds := [.data, .data, .data, .data, .sentinel, .sentinel, .pinned], laidTests := true, laidLooks := .later }
def FnExactReadRasterCardSaid : Prop := Claim7.holds Tryd.pinned (.plain (OpenSpec.ofChange fnExactReadRasterSpec)) fnExactReadRasterCard

/-- THE TIED CARD OF 'laws.FnServers'. -/
def fnServersCard : Claim7 := { stood := { row := fnServersRow, standIns := [], harness := (true, "c3be4a87fbdcfa15bb81bf4978a7d61029bf088f44c369984c133d6086347bc5"), looks := true }, kinds := [], alts := [], laidByText := true, laidKinds := [.data, .data, .data, .data, .sentinel, .sentinel, .pinned], laidTests := true, laidLooks := .later }
def FnServersCardSaid : Prop := Claim7.holds Tryd.pinned (.plain (OpenSpec.ofChange fnServersSpec)) fnServersCard

/-- THE SECOND FORM's CARD OF 'laws.FnExactRasterText'. -/
def fnExactRasterTextUptoCard : Claim7 := { stood := { row := fnExactRasterTextUptoRow, standIns := [], harness := (true, "c3be4a87fbdcfa15bb81bf4978a7d61029bf088f44c369984c133d6086347bc5"), looks := true }, kinds := [], alts := [], laidByText := true, laidKinds := [.data, .data, .data], laidTests := true, laidLooks := .later }
def FnExactRasterTextUptoCardSaid : Prop := Claim7.holds Tryd.pinned (.plain (OpenSpec.upto fnExactRasterTextSpec)) fnExactRasterTextUptoCard

/-- THE SECOND FORM's CARD OF 'laws.FnDiscrimination'. -/
def fnDiscriminationUptoCard : Claim7 := { stood := { row := fnDiscriminationUptoRow, standIns := [], harness := (true, "c3be4a87fbdcfa15bb81bf4978a7d61029bf088f44c369984c133d6086347bc5"), looks := true }, kinds := [], alts := [], laidByText := true, laidKinds := [.data, .data, .data], laidTests := true, laidLooks := .later }
def FnDiscriminationUptoCardSaid : Prop := Claim7.holds Tryd.pinned (.plain (OpenSpec.upto fnDiscriminationSpec)) fnDiscriminationUptoCard

/-- THE SECOND FORM's CARD OF 'laws.FnExactReadRaster'. -/
def fnExactReadRasterUptoCard : Claim7 := { stood := { row := fnExactReadRasterUptoRow, standIns := [], harness := (true, "c3be4a87fbdcfa15bb81bf4978a7d61029bf088f44c369984c133d6086347bc5"), looks := true }, kinds := [], alts := [], laidByText := true, laidKinds := [.data, .data, .data, .data, .sentinel, .sentinel, .pinned], laidTests := true, laidLooks := .later }
def FnExactReadRasterUptoCardSaid : Prop := Claim7.holds Tryd.pinned (.plain (OpenSpec.upto fnExactReadRasterSpec)) fnExactReadRasterUptoCard

/-- THE SECOND FORM's CARD OF 'laws.FnServers'. -/
def fnServersUptoCard : Claim7 := { stood := { row := fnServersUptoRow, standIns := [], harness := (true, "c3be4a87fbdcfa15bb81bf4978a7d61029bf088f44c369984c133d6086347bc5"), looks := true }, kinds := [], alts := [], laidByText := true, laidKinds := [.data, .data, .data, .data, .sentinel, .sentinel, .pinned], laidTests := true, laidLooks := .later }
def FnServersUptoCardSaid : Prop := Claim7.holds Tryd.pinned (.plain (OpenSpec.upto fnServersSpec)) fnServersUptoCard
end Rows
end Go.Proofs.YtiaemddmkmfijaaDoor
