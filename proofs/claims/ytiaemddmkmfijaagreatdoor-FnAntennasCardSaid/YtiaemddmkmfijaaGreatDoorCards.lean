/-
  DERIVED. GIVEN WITH THE SEED: THE CARDS: each row of YtiaemddmkmfijaaGreatDoorRows.lean that lists a variable, with what it lists TIED to the program's text (the seventh form; the later family's looks); each row that meets fmt, with fmt's text TOLD by the authors' own Lean function (tested against real Go, not proved from fmt's source: count such statements apart). THE CARD IS WHAT COUNTS. Prove the row's statement (the work); the ties are given (YtiaemddmkmfijaaGreatDoorTie.lean); close each card by the builder's one call (the guide's Derived/Test/ToyasCard.lean, 'card_holds'). Laid BY PROGRAM, IN A SANDBOX (cutbox-door.mjs). By AI agents, Wed Nov 11 2026. No macro, syntax, notation, axiom, sorry.
-/
import Derived.Test.YtiaemddmkmfijaaGreatDoorRows
import GoSem.ClaimSeven
namespace Go.Proofs.YtiaemddmkmfijaaGreatDoor
namespace Rows

/-- THE TIED CARD OF 'laws.FnAntennas'. -/
def fnAntennasCard : Claim7 := { stood := { row := fnAntennasRow, standIns := [], harness := (true, "2870f3877a66e9099575b77a8f4a235b5ee98970a70b177c3efd1204fa0af1ae"), looks := true }, kinds := [], alts := [], laidByText := true, laidKinds := [.data, .data, .data, .data, .sentinel, .sentinel, .pinned], laidTests := true, laidLooks := .later }
def FnAntennasCardSaid : Prop := Claim7.holds Tryz.pinned (.plain (OpenSpec.ofChange fnAntennasSpec)) fnAntennasCard

/-- THE TIED CARD OF 'laws.FnTerrain'. -/
def fnTerrainCard : Claim7 := { stood := { row := fnTerrainRow, standIns := [], harness := (true, "2870f3877a66e9099575b77a8f4a235b5ee98970a70b177c3efd1204fa0af1ae"), looks := true }, kinds := [], alts := [], laidByText := true, laidKinds := [.data, .data, .data, .data, .sentinel, .sentinel, .pinned], laidTests := true, laidLooks := .later }
def FnTerrainCardSaid : Prop := Claim7.holds Tryz.pinned (.plain (OpenSpec.ofChange fnTerrainSpec)) fnTerrainCard

/-- THE TIED CARD OF 'laws.FnRadios'. -/
def fnRadiosCard : Claim7 := { stood := { row := fnRadiosRow, standIns := [], harness := (true, "2870f3877a66e9099575b77a8f4a235b5ee98970a70b177c3efd1204fa0af1ae"), looks := true }, kinds := [], alts := [], laidByText := true, laidKinds := [.data, .data, .data, .data, .sentinel, .sentinel, .pinned], laidTests := true, laidLooks := .later }
def FnRadiosCardSaid : Prop := Claim7.holds Tryz.pinned (.plain (OpenSpec.ofChange fnRadiosSpec)) fnRadiosCard

/-- THE TIED CARD OF 'laws.FnMasks'. -/
def fnMasksCard : Claim7 := { stood := { row := fnMasksRow, standIns := [], harness := (true, "2870f3877a66e9099575b77a8f4a235b5ee98970a70b177c3efd1204fa0af1ae"), looks := true }, kinds := [], alts := [], laidByText := true, laidKinds := [.data, .data, .data, .data, .sentinel, .sentinel, .pinned], laidTests := true, laidLooks := .later }
def FnMasksCardSaid : Prop := Claim7.holds Tryz.pinned (.plain (OpenSpec.ofChange fnMasksSpec)) fnMasksCard

/-- THE SECOND FORM's CARD OF 'laws.FnAntennas'. -/
def fnAntennasUptoCard : Claim7 := { stood := { row := fnAntennasUptoRow, standIns := [], harness := (true, "2870f3877a66e9099575b77a8f4a235b5ee98970a70b177c3efd1204fa0af1ae"), looks := true }, kinds := [], alts := [], laidByText := true, laidKinds := [.data, .data, .data, .data, .sentinel, .sentinel, .pinned], laidTests := true, laidLooks := .later }
def FnAntennasUptoCardSaid : Prop := Claim7.holds Tryz.pinned (.plain (OpenSpec.upto fnAntennasSpec)) fnAntennasUptoCard

/-- THE SECOND FORM's CARD OF 'laws.FnTerrain'. -/
def fnTerrainUptoCard : Claim7 := { stood := { row := fnTerrainUptoRow, standIns := [], harness := (true, "2870f3877a66e9099575b77a8f4a235b5ee98970a70b177c3efd1204fa0af1ae"), looks := true }, kinds := [], alts := [], laidByText := true, laidKinds := [.data, .data, .data, .data, .sentinel, .sentinel, .pinned], laidTests := true, laidLooks := .later }
def FnTerrainUptoCardSaid : Prop := Claim7.holds Tryz.pinned (.plain (OpenSpec.upto fnTerrainSpec)) fnTerrainUptoCard

/-- THE SECOND FORM's CARD OF 'laws.FnRadios'. -/
def fnRadiosUptoCard : Claim7 := { stood := { row := fnRadiosUptoRow, standIns := [], harness := (true, "2870f3877a66e9099575b77a8f4a235b5ee98970a70b177c3efd1204fa0af1ae"), looks := true }, kinds := [], alts := [], laidByText := true, laidKinds := [.data, .data, .data, .data, .sentinel, .sentinel, .pinned], laidTests := true, laidLooks := .later }
def FnRadiosUptoCardSaid : Prop := Claim7.holds Tryz.pinned (.plain (OpenSpec.upto fnRadiosSpec)) fnRadiosUptoCard

/-- THE SECOND FORM's CARD OF 'laws.FnMasks'. -/
def fnMasksUptoCard : Claim7 := { stood := { row := fnMasksUptoRow, standIns := [], harness := (true, "2870f3877a66e9099575b77a8f4a235b5ee98970a70b177c3efd1204fa0af1ae"), looks := true }, kinds := [], alts := [], laidByText := true, laidKinds := [.data, .data, .data, .data, .sentinel, .sentinel, .pinned], laidTests := true, laidLooks := .later }
def FnMasksUptoCardSaid : Prop := Claim7.holds Tryz.pinned (.plain (OpenSpec.upto fnMasksSpec)) fnMasksUptoCard
end Rows
end Go.Proofs.YtiaemddmkmfijaaGreatDoor
