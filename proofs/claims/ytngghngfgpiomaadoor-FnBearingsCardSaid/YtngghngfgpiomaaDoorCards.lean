/-
  DERIVED. GIVEN WITH THE SEED: THE CARDS: each row of YtngghngfgpiomaaDoorRows.lean that lists a variable, with what it lists TIED to the program's text (the seventh form; the later family's looks); each row that meets fmt, with fmt's text TOLD by the authors' own Lean function (tested against real Go, not proved from fmt's source: count such statements apart). THE CARD IS WHAT COUNTS. Prove the row's statement (the work); the ties are given (YtngghngfgpiomaaDoorTie.lean); close each card by the builder's one call (the guide's Derived/Test/ToyasCard.lean, 'card_holds'). Laid BY PROGRAM, IN A SANDBOX (cutbox-door.mjs). By AI agents, Wed Nov 11 2026. No macro, syntax, notation, axiom, sorry.
-/
import Derived.Test.YtngghngfgpiomaaDoorRows
import GoSem.ClaimSeven
namespace Go.Proofs.YtngghngfgpiomaaDoor
namespace Rows

/-- THE TIED CARD OF 'laws.FnBearings'. -/
def fnBearingsCard : Claim7 := { stood := { row := fnBearingsRow, standIns := [], harness := (true, "080a4f8a4fcbb2e502661e72ce1cee17ef0404e8f2bb45468f48a785efbba029"), looks := false }, kinds := [], alts := [], laidByText := true, laidKinds := [.data], laidTests := true, laidLooks := .later }
def FnBearingsCardSaid : Prop := Claim7.holds Tryd.pinned (.plain (OpenSpec.ofChange fnBearingsSpec)) fnBearingsCard

/-- THE SECOND FORM's CARD OF 'laws.FnBearings'. -/
def fnBearingsUptoCard : Claim7 := { stood := { row := fnBearingsUptoRow, standIns := [], harness := (true, "080a4f8a4fcbb2e502661e72ce1cee17ef0404e8f2bb45468f48a785efbba029"), looks := false }, kinds := [], alts := [], laidByText := true, laidKinds := [.data], laidTests := true, laidLooks := .later }
def FnBearingsUptoCardSaid : Prop := Claim7.holds Tryd.pinned (.plain (OpenSpec.upto fnBearingsSpec)) fnBearingsUptoCard
end Rows
end Go.Proofs.YtngghngfgpiomaaDoor
