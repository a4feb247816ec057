/-
  DERIVED. GIVEN WITH THE SEED: THE CARDS: each row of YtcnahplljacihaaDoorRows.lean that lists a variable, with what it lists TIED to the program's text (the seventh form; the later family's looks); each row that meets fmt, with fmt's text TOLD by the authors' own Lean function (tested against real Go, not proved from fmt's source: count such statements apart). THE CARD IS WHAT COUNTS. Prove the row's statement (the work); the ties are given (YtcnahplljacihaaDoorTie.lean); close each card by the builder's one call (the guide's Derived/Test/ToyasCard.lean, 'card_holds'). Laid BY PROGRAM, IN A SANDBOX (cutbox-door.mjs). By AI agents, Wed Nov 11 2026. No macro, syntax, notation, axiom, sorry.
-/
import Derived.Test.YtcnahplljacihaaDoorRows
import GoSem.ClaimSeven
namespace Go.Proofs.YtcnahplljacihaaDoor
namespace Rows

/-- THE TIED CARD OF 'laws.FnFreeSpace'. -/
def fnFreeSpaceCard : Claim7 := { stood := { row := fnFreeSpaceRow, standIns := [], harness := (true, "4420ade4829864a76c5509607874bff3eba3fc2d6f8d97b0f86885f0de3de80d"), looks := false }, kinds := [], alts := [], laidByText := true, laidKinds := [.data, .data, .data], laidTests := true, laidLooks := .later }
def FnFreeSpaceCardSaid : Prop := Claim7.holds Tryd.pinned (.plain (OpenSpec.ofChange fnFreeSpaceSpec)) fnFreeSpaceCard

/-- THE TIED CARD OF 'laws.FnFading'. -/
def fnFadingCard : Claim7 := { stood := { row := fnFadingRow, standIns := [], harness := (true, "4420ade4829864a76c5509607874bff3eba3fc2d6f8d97b0f86885f0de3de80d"), looks := false }, kinds := [], alts := [], laidByText := true, laidKinds := [.data, .data, .data], laidTests := true, laidLooks := .later }
def FnFadingCardSaid : Prop := Claim7.holds Tryd.pinned (.plain (OpenSpec.ofChange fnFadingSpec)) fnFadingCard

/-- THE TIED CARD OF 'laws.FnRain'. -/
def fnRainCard : Claim7 := { stood := { row := fnRainRow, standIns := [], harness := (true, "4420ade4829864a76c5509607874bff3eba3fc2d6f8d97b0f86885f0de3de80d"), looks := false }, kinds := [], alts := [], laidByText := true, laidKinds := [.data, .data, .data, .data], laidTests := true, laidLooks := .later }
def FnRainCardSaid : Prop := Claim7.holds Tryd.pinned (.plain (OpenSpec.ofChange fnRainSpec)) fnRainCard

/-- THE SECOND FORM's CARD OF 'laws.FnFreeSpace'. -/
def fnFreeSpaceUptoCard : Claim7 := { stood := { row := fnFreeSpaceUptoRow, standIns := [], harness := (true, "4420ade4829864a76c5509607874bff3eba3fc2d6f8d97b0f86885f0de3de80d"), looks := false }, kinds := [], alts := [], laidByText := true, laidKinds := [.data, .data, .data], laidTests := true, laidLooks := .later }
def FnFreeSpaceUptoCardSaid : Prop := Claim7.holds Tryd.pinned (.plain (OpenSpec.upto fnFreeSpaceSpec)) fnFreeSpaceUptoCard

/-- THE SECOND FORM's CARD OF 'laws.FnFading'. -/
def fnFadingUptoCard : Claim7 := { stood := { row := fnFadingUptoRow, standIns := [], harness := (true, "4420ade4829864a76c5509607874bff3eba3fc2d6f8d97b0f86885f0de3de80d"), looks := false }, kinds := [], alts := [], laidByText := true, laidKinds := [.data, .data, .data], laidTests := true, laidLooks := .later }
def FnFadingUptoCardSaid : Prop := Claim7.holds Tryd.pinned (.plain (OpenSpec.upto fnFadingSpec)) fnFadingUptoCard

/-- THE SECOND FORM's CARD OF 'laws.FnRain'. -/
def fnRainUptoCard : Claim7 := { stood := { row := fnRainUptoRow, standIns := [], harness := (true, "4420ade4829864a76c5509607874bff3eba3fc2d6f8d97b0f86885f0de3de80d"), looks := false }, kinds := [], alts := [], laidByText := true, laidKinds := [.data, .data, .data, .data], laidTests := true, laidLooks := .later }
def FnRainUptoCardSaid : Prop := Claim7.holds Tryd.pinned (.plain (OpenSpec.upto fnRainSpec)) fnRainUptoCard
end Rows
end Go.Proofs.YtcnahplljacihaaDoor
