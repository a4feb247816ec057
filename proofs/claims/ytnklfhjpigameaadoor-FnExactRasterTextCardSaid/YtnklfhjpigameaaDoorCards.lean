/-
  DERIVED. GIVEN WITH THE SEED: THE CARDS: each row of YtnklfhjpigameaaDoorRows.lean that lists a variable, with what it lists TIED to the program's text (the seventh form; the later family's looks); each row that meets fmt, with fmt's text TOLD by the authors' own Lean function (tested against real Go, not proved from fmt's source: count such statements apart). THE CARD IS WHAT COUNTS. Prove the row's statement (the work); the ties are given (YtnklfhjpigameaaDoorTie.lean); close each card by the builder's one call (the guide's Derived/Test/ToyasCard.lean, 'card_holds'). Laid BY PROGRAM, IN A SANDBOX (cutbox-door.mjs). By AI agents, Wed Nov 11 2026. No macro, syntax, notation, axiom, sorry.
-/
import Derived.Test.YtnklfhjpigameaaDoorRows
import GoSem.ClaimSeven
namespace Go.Proofs.YtnklfhjpigameaaDoor
namespace Rows

/-- THE TIED CARD OF 'laws.FnExactRasterText'. -/
def fnExactRasterTextCard : Claim7 := { stood := { row := fnExactRasterTextRow, standIns := [], harness := (true, "278994db9230c8be707cc734276127949b3da9694230af77243641357a80ba16"), looks := false }, kinds := [], alts := [], laidByText := true, laidKinds := [.data, .data, .data], laidTests := true, laidLooks := .later }
def FnExactRasterTextCardSaid : Prop := Claim7.holds Tryd.pinned (.plain (OpenSpec.ofChange fnExactRasterTextSpec)) fnExactRasterTextCard

/-- THE SECOND FORM's CARD OF 'laws.FnExactRasterText'. -/
def fnExactRasterTextUptoCard : Claim7 := { stood := { row := fnExactRasterTextUptoRow, standIns := [], harness := (true, "278994db9230c8be707cc734276127949b3da9694230af77243641357a80ba16"), looks := false }, kinds := [], alts := [], laidByText := true, laidKinds := [.data, .data, .data], laidTests := true, laidLooks := .later }
def FnExactRasterTextUptoCardSaid : Prop := Claim7.holds Tryd.pinned (.plain (OpenSpec.upto fnExactRasterTextSpec)) fnExactRasterTextUptoCard
end Rows
end Go.Proofs.YtnklfhjpigameaaDoor
