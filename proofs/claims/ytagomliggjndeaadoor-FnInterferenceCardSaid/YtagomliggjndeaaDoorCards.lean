/-
  DERIVED. GIVEN WITH THE SEED: THE CARDS: each row of YtagomliggjndeaaDoorRows.lean that lists a variable, with what it lists TIED to the program's text (the seventh form; the later family's looks); each row that meets fmt, with fmt's text TOLD by the authors' own Lean function (tested against real Go, not proved from fmt's source: count such statements apart). THE CARD IS WHAT COUNTS. Prove the row's statement (the work); the ties are given (YtagomliggjndeaaDoorTie.lean); close each card by the builder's one call (the guide's Derived/Test/ToyasCard.lean, 'card_holds'). Laid BY PROGRAM, IN A SANDBOX (cutbox-door.mjs). By AI agents, Wed Nov 11 2026. No macro, syntax, notation, axiom, sorry.
-/
import Derived.Test.YtagomliggjndeaaDoorRows
import GoSem.ClaimSeven
namespace Go.Proofs.YtagomliggjndeaaDoor
namespace Rows

/-- THE TIED CARD OF 'laws.FnInterference'. -/
def fnInterferenceCard : Claim7 := { stood := { row := fnInterferenceRow, standIns := [], harness := (true, "e4e0972097f625ae096268eb44cb5ca7d1f5fdb8db51e94ded7c949ef2518d4a"), looks := false }, kinds := [], alts := [], laidByText := true, laidKinds := [.data, .data, .data], laidTests := true, laidLooks := .later }
def FnInterferenceCardSaid : Prop := Claim7.holds Tryd.pinned (.plain (OpenSpec.ofChange fnInterferenceSpec)) fnInterferenceCard

/-- THE SECOND FORM's CARD OF 'laws.FnInterference'. -/
def fnInterferenceUptoCard : Claim7 := { stood := { row := fnInterferenceUptoRow, standIns := [], harness := (true, "e4e0972097f625ae096268eb44cb5ca7d1f5fdb8db51e94ded7c949ef2518d4a"), looks := false }, kinds := [], alts := [], laidByText := true, laidKinds := [.data, .data, .data], laidTests := true, laidLooks := .later }
def FnInterferenceUptoCardSaid : Prop := Claim7.holds Tryd.pinned (.plain (OpenSpec.upto fnInterferenceSpec)) fnInterferenceUptoCard
end Rows
end Go.Proofs.YtagomliggjndeaaDoor
