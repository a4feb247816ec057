/-
  DERIVED. GIVEN WITH THE SEED: THE CARDS: each row of YtnmkmbdimijigaaDoorRows.lean that lists a variable, with what it lists TIED to the program's text (the seventh form; the later family's looks); each row that meets fmt, with fmt's text TOLD by the authors' own Lean function (tested against real Go, not proved from fmt's source: count such statements apart). THE CARD IS WHAT COUNTS. Prove the row's statement (the work); the ties are given (YtnmkmbdimijigaaDoorTie.lean); close each card by the builder's one call (the guide's Derived/Test/ToyasCard.lean, 'card_holds'). Laid BY PROGRAM, IN A SANDBOX (cutbox-door.mjs). By AI agents, Wed Nov 11 2026. No macro, syntax, notation, axiom, sorry.
-/
import Derived.Test.YtnmkmbdimijigaaDoorRows
import GoSem.ClaimSeven
namespace Go.Proofs.YtnmkmbdimijigaaDoor
namespace Rows

/-- THE TIED CARD OF 'laws.FnSums'. -/
def fnSumsCard : Claim7 := { stood := { row := fnSumsRow, standIns := [], harness := (true, "a8dab8528bed632b0a047c4662e05bf1098340de7c903b9aab9d93d820d7e36f"), looks := true }, kinds := [], alts := [], laidByText := true, laidKinds := [.data, .data, .data], laidTests := true, laidLooks := .later }
def FnSumsCardSaid : Prop := Claim7.holds Tryd.pinned (.plain (OpenSpec.ofChange fnSumsSpec)) fnSumsCard

/-- THE TIED CARD OF 'laws.FnRoots'. -/
def fnRootsCard : Claim7 := { stood := { row := fnRootsRow, standIns := [], harness := (true, "a8dab8528bed632b0a047c4662e05bf1098340de7c903b9aab9d93d820d7e36f"), looks := true }, kinds := [], alts := [], laidByText := true, laidKinds := [.data, .data, .data, .data, .sentinel, .sentinel, .pinned], laidTests := true, laidLooks := .later }
def FnRootsCardSaid : Prop := Claim7.holds Tryd.pinned (.plain (OpenSpec.ofChange fnRootsSpec)) fnRootsCard

/-- THE TIED CARD OF 'laws.FnPlaces'. -/
def fnPlacesCard : Claim7 := { stood := { row := fnPlacesRow, standIns := [], harness := (true, "a8dab8528bed632b0a047c4662e05bf1098340de7c903b9aab9d93d820d7e36f"), looks := true }, kinds := [], alts := [], laidByText := true, laidKinds := [.data, .data, .data, .data, .sentinel, .sentinel, .pinned], laidTests := true, laidLooks := .later }
def FnPlacesCardSaid : Prop := Claim7.holds Tryd.pinned (.plain (OpenSpec.ofChange fnPlacesSpec)) fnPlacesCard

/-- THE TIED CARD OF 'laws.FnDecibels'. -/
def fnDecibelsCard : Claim7 := { stood := { row := fnDecibelsRow, standIns := [], harness := (true, "a8dab8528bed632b0a047c4662e05bf1098340de7c903b9aab9d93d820d7e36f"), looks := true }, kinds := [], alts := [], laidByText := true, laidKinds := [.data, .data, .data, .sentinel, .sentinel], laidTests := true, laidLooks := .later }
def FnDecibelsCardSaid : Prop := Claim7.holds Tryd.pinned (.plain (OpenSpec.ofChange fnDecibelsSpec)) fnDecibelsCard

/-- THE SECOND FORM's CARD OF 'laws.FnSums'. -/
def fnSumsUptoCard : Claim7 := { stood := { row := fnSumsUptoRow, standIns := [], harness := (true, "a8dab8528bed632b0a047c4662e05bf1098340de7c903b9aab9d93d820d7e36f"), looks := true }, kinds := [], alts := [], laidByText := true, laidKinds := [.data, .data, .data], laidTests := true, laidLooks := .later }
def FnSumsUptoCardSaid : Prop := Claim7.holds Tryd.pinned (.plain (OpenSpec.upto fnSumsSpec)) fnSumsUptoCard

/-- THE SECOND FORM's CARD OF 'laws.FnRoots'. -/
def fnRootsUptoCard : Claim7 := { stood := { row := fnRootsUptoRow, standIns := [], harness := (true, "a8dab8528bed632b0a047c4662e05bf1098340de7c903b9aab9d93d820d7e36f"), looks := true }, kinds := [], alts := [], laidByText := true, laidKinds := [.data, .data, .data, .data, .sentinel, .sentinel, .pinned], laidTests := true, laidLooks := .later }
def FnRootsUptoCardSaid : Prop := Claim7.holds Tryd.pinned (.plain (OpenSpec.upto fnRootsSpec)) fnRootsUptoCard

/-- THE SECOND FORM's CARD OF 'laws.FnPlaces'. -/
def fnPlacesUptoCard : Claim7 := { stood := { row := fnPlacesUptoRow, standIns := [], harness := (true, "a8dab8528bed632b0a047c4662e05bf1098340de7c903b9aab9d93d820d7e36f"), looks := true }, kinds := [], alts := [], laidByText := true, laidKinds := [.data, .data, .data, .data, .sentinel, .sentinel, .pinned], laidTests := true, laidLooks := .later }
def FnPlacesUptoCardSaid : Prop := Claim7.holds Tryd.pinned (.plain (OpenSpec.upto fnPlacesSpec)) fnPlacesUptoCard

/-- THE SECOND FORM's CARD OF 'laws.FnDecibels'. -/
def fnDecibelsUptoCard : Claim7 := { stood := { row := fnDecibelsUptoRow, standIns := [], harness := (true, "a8dab8528bed632b0a047c4662e05bf1098340de7c903b9aab9d93d820d7e36f"), looks := true }, kinds := [], alts := [], laidByText := true, laidKinds := [.data, .data, .data, .sentinel, .sentinel], laidTests := true, laidLooks := .later }
def FnDecibelsUptoCardSaid : Prop := Claim7.holds Tryd.pinned (.plain (OpenSpec.upto fnDecibelsSpec)) fnDecibelsUptoCard
end Rows
end Go.Proofs.YtnmkmbdimijigaaDoor
