/-
  No cell of these rows narrows 'for every input' (looked for: loops, veiled, ifaces, maps, wideKeys, modest, calm, conditions, laid).
  DERIVED. THE GIVEN ROWS OF THIS SEAT. 9 by the template 'for every input the law returns true; each argument reads behind the call as it read before'; 0 by the template 'total and deterministic' (their statements: YtncbhafegccpmaaTotals.lean).
  GIVEN WITH THE SEED: the statements are not yours to turn. If you find one false, say at which input.
  Laid BY PROGRAM, IN A SANDBOX (cutbox-rows.mjs): the forced cells as the released guide's own fill.sh prints them over the translation 1b37e2f94c63bc88… (all of the seat's roots in one cut). By AI agents, Wed Nov 11 2026. No macro, syntax, notation, axiom, sorry.
-/
import Derived.Test.YtncbhafegccpmaaChecked
import GoSem.Claim
import GoSem.ClaimJoined
import GoSem.ClaimMapViews
import Derived.JoinedTies
import Derived.KernelRfl
namespace Go.Proofs.Ytncbhafegccpmaa
/- THE CELL 'sum', in the pinned program and in every row, IS THE sha256 OF THE DUMP (.gsa) THAT YtncbhafegccpmaaProg.lean LOADS. Nothing in Lean hashes anything: it is a label: what it is worth is what the hold of that sum in a sandbox is worth. -/
noncomputable def Try.pinned : Pinned := { name := "ytncbhafegccpmaa", sum := "1b37e2f94c63bc88c4aef470064f38675aeae3f9387a54b465dc4bf60d22053f", checked := Try.checked }
namespace Rows
def none {H : Type} : Left H := { results := [], args := [] }

/-- 'laws.FnExactValidNeighbours': WHATEVER THE INPUT: true; the input reads as it did. -/
def fnExactValidNeighboursSpec : ChangeSpec := { name := "fnExactValidNeighbours", fn := fun _ => fun
  | [d] => { results := [.lit (.bool true)], args := [d] }
  | _ => none }
def fnExactValidNeighboursRow : OpenClaim := { program := "ytncbhafegccpmaa", sum := "1b37e2f94c63bc88c4aef470064f38675aeae3f9387a54b465dc4bf60d22053f", func := "loop.example/g00925/laws.FnExactValidNeighbours", spec := "fnExactValidNeighbours", unfollowed := true, recurses := true, apart := false }
def FnExactValidNeighboursSaid : Prop := fnExactValidNeighboursRow.holds Try.pinned (OpenSpec.ofChange fnExactValidNeighboursSpec)

/-- ITS FALSE NEIGHBOUR: 'it returns false'. Refute it at one input. -/
def fnExactValidNeighboursWrong : ChangeSpec := { name := "fnExactValidNeighbours", fn := fun _ => fun
  | [d] => { results := [.lit (.bool false)], args := [d] }
  | _ => none }
def FnExactValidNeighboursWrongFalsely : Prop := fnExactValidNeighboursRow.holds Try.pinned (OpenSpec.ofChange fnExactValidNeighboursWrong)

/-- 'laws.FnExactMissingNeighbours': WHATEVER THE INPUT: true; the input reads as it did. -/
def fnExactMissingNeighboursSpec : ChangeSpec := { name := "fnExactMissingNeighbours", fn := fun _ => fun
  | [d1, d2] => { results := [.lit (.bool true)], args := [d1, d2] }
  | _ => none }
def fnExactMissingNeighboursRow : OpenClaim := { program := "ytncbhafegccpmaa", sum := "1b37e2f94c63bc88c4aef470064f38675aeae3f9387a54b465dc4bf60d22053f", func := "loop.example/g00925/laws.FnExactMissingNeighbours", spec := "fnExactMissingNeighbours", unfollowed := true, recurses := true, apart := false }
def FnExactMissingNeighboursSaid : Prop := fnExactMissingNeighboursRow.holds Try.pinned (OpenSpec.ofChange fnExactMissingNeighboursSpec)

/-- ITS FALSE NEIGHBOUR: 'it returns false'. Refute it at one input. -/
def fnExactMissingNeighboursWrong : ChangeSpec := { name := "fnExactMissingNeighbours", fn := fun _ => fun
  | [d1, d2] => { results := [.lit (.bool false)], args := [d1, d2] }
  | _ => none }
def FnExactMissingNeighboursWrongFalsely : Prop := fnExactMissingNeighboursRow.holds Try.pinned (OpenSpec.ofChange fnExactMissingNeighboursWrong)

/-- 'laws.FnExactSymmetricNeighbours': WHATEVER THE INPUT: true; the input reads as it did. -/
def fnExactSymmetricNeighboursSpec : ChangeSpec := { name := "fnExactSymmetricNeighbours", fn := fun _ => fun
  | [d] => { results := [.lit (.bool true)], args := [d] }
  | _ => none }
def fnExactSymmetricNeighboursRow : OpenClaim := { program := "ytncbhafegccpmaa", sum := "1b37e2f94c63bc88c4aef470064f38675aeae3f9387a54b465dc4bf60d22053f", func := "loop.example/g00925/laws.FnExactSymmetricNeighbours", spec := "fnExactSymmetricNeighbours", unfollowed := true, recurses := true, apart := false }
def FnExactSymmetricNeighboursSaid : Prop := fnExactSymmetricNeighboursRow.holds Try.pinned (OpenSpec.ofChange fnExactSymmetricNeighboursSpec)

/-- ITS FALSE NEIGHBOUR: 'it returns false'. Refute it at one input. -/
def fnExactSymmetricNeighboursWrong : ChangeSpec := { name := "fnExactSymmetricNeighbours", fn := fun _ => fun
  | [d] => { results := [.lit (.bool false)], args := [d] }
  | _ => none }
def FnExactSymmetricNeighboursWrongFalsely : Prop := fnExactSymmetricNeighboursRow.holds Try.pinned (OpenSpec.ofChange fnExactSymmetricNeighboursWrong)

/-- 'laws.FnExactNeighboursByPlace': WHATEVER THE INPUT: true; the input reads as it did. -/
def fnExactNeighboursByPlaceSpec : ChangeSpec := { name := "fnExactNeighboursByPlace", fn := fun _ => fun
  | [d1, d2] => { results := [.lit (.bool true)], args := [d1, d2] }
  | _ => none }
def fnExactNeighboursByPlaceRow : OpenClaim := { program := "ytncbhafegccpmaa", sum := "1b37e2f94c63bc88c4aef470064f38675aeae3f9387a54b465dc4bf60d22053f", func := "loop.example/g00925/laws.FnExactNeighboursByPlace", spec := "fnExactNeighboursByPlace", unfollowed := true, recurses := true, apart := false }
def FnExactNeighboursByPlaceSaid : Prop := fnExactNeighboursByPlaceRow.holds Try.pinned (OpenSpec.ofChange fnExactNeighboursByPlaceSpec)

/-- ITS FALSE NEIGHBOUR: 'it returns false'. Refute it at one input. -/
def fnExactNeighboursByPlaceWrong : ChangeSpec := { name := "fnExactNeighboursByPlace", fn := fun _ => fun
  | [d1, d2] => { results := [.lit (.bool false)], args := [d1, d2] }
  | _ => none }
def FnExactNeighboursByPlaceWrongFalsely : Prop := fnExactNeighboursByPlaceRow.holds Try.pinned (OpenSpec.ofChange fnExactNeighboursByPlaceWrong)

/-- 'laws.FnExactModuloClashes': WHATEVER THE INPUT: true; the input reads as it did. -/
def fnExactModuloClashesSpec : ChangeSpec := { name := "fnExactModuloClashes", fn := fun _ => fun
  | [d1, d2, d3] => { results := [.lit (.bool true)], args := [d1, d2, d3] }
  | _ => none }
def fnExactModuloClashesRow : OpenClaim := { program := "ytncbhafegccpmaa", sum := "1b37e2f94c63bc88c4aef470064f38675aeae3f9387a54b465dc4bf60d22053f", func := "loop.example/g00925/laws.FnExactModuloClashes", spec := "fnExactModuloClashes", unfollowed := true, recurses := true, apart := false }
def FnExactModuloClashesSaid : Prop := fnExactModuloClashesRow.holds Try.pinned (OpenSpec.ofChange fnExactModuloClashesSpec)

/-- ITS FALSE NEIGHBOUR: 'it returns false'. Refute it at one input. -/
def fnExactModuloClashesWrong : ChangeSpec := { name := "fnExactModuloClashes", fn := fun _ => fun
  | [d1, d2, d3] => { results := [.lit (.bool false)], args := [d1, d2, d3] }
  | _ => none }
def FnExactModuloClashesWrongFalsely : Prop := fnExactModuloClashesRow.holds Try.pinned (OpenSpec.ofChange fnExactModuloClashesWrong)

/-- 'laws.FnExactSecondNeighbours': WHATEVER THE INPUT: true; the input reads as it did. -/
def fnExactSecondNeighboursSpec : ChangeSpec := { name := "fnExactSecondNeighbours", fn := fun _ => fun
  | [d] => { results := [.lit (.bool true)], args := [d] }
  | _ => none }
def fnExactSecondNeighboursRow : OpenClaim := { program := "ytncbhafegccpmaa", sum := "1b37e2f94c63bc88c4aef470064f38675aeae3f9387a54b465dc4bf60d22053f", func := "loop.example/g00925/laws.FnExactSecondNeighbours", spec := "fnExactSecondNeighbours", unfollowed := true, recurses := true, apart := false }
def FnExactSecondNeighboursSaid : Prop := fnExactSecondNeighboursRow.holds Try.pinned (OpenSpec.ofChange fnExactSecondNeighboursSpec)

/-- ITS FALSE NEIGHBOUR: 'it returns false'. Refute it at one input. -/
def fnExactSecondNeighboursWrong : ChangeSpec := { name := "fnExactSecondNeighbours", fn := fun _ => fun
  | [d] => { results := [.lit (.bool false)], args := [d] }
  | _ => none }
def FnExactSecondNeighboursWrongFalsely : Prop := fnExactSecondNeighboursRow.holds Try.pinned (OpenSpec.ofChange fnExactSecondNeighboursWrong)

/-- 'laws.FnExactValidCodes': WHATEVER THE INPUT: true; the input reads as it did. -/
def fnExactValidCodesSpec : ChangeSpec := { name := "fnExactValidCodes", fn := fun _ => fun
  | [d1, d2, d3] => { results := [.lit (.bool true)], args := [d1, d2, d3] }
  | _ => none }
def fnExactValidCodesRow : OpenClaim := { program := "ytncbhafegccpmaa", sum := "1b37e2f94c63bc88c4aef470064f38675aeae3f9387a54b465dc4bf60d22053f", func := "loop.example/g00925/laws.FnExactValidCodes", spec := "fnExactValidCodes", unfollowed := true, recurses := true, apart := false }
def FnExactValidCodesSaid : Prop := fnExactValidCodesRow.holds Try.pinned (OpenSpec.ofChange fnExactValidCodesSpec)

/-- ITS FALSE NEIGHBOUR: 'it returns false'. Refute it at one input. -/
def fnExactValidCodesWrong : ChangeSpec := { name := "fnExactValidCodes", fn := fun _ => fun
  | [d1, d2, d3] => { results := [.lit (.bool false)], args := [d1, d2, d3] }
  | _ => none }
def FnExactValidCodesWrongFalsely : Prop := fnExactValidCodesRow.holds Try.pinned (OpenSpec.ofChange fnExactValidCodesWrong)

/-- 'laws.FnNeighbours': WHATEVER THE INPUT: true; the input reads as it did. -/
def fnNeighboursSpec : ChangeSpec := { name := "fnNeighbours", fn := fun _ => fun
  | [d1, d2] => { results := [.lit (.bool true)], args := [d1, d2] }
  | _ => none }
def fnNeighboursRow : OpenClaim := { program := "ytncbhafegccpmaa", sum := "1b37e2f94c63bc88c4aef470064f38675aeae3f9387a54b465dc4bf60d22053f", func := "loop.example/g00925/laws.FnNeighbours", spec := "fnNeighbours", unfollowed := true, recurses := true, apart := false }
def FnNeighboursSaid : Prop := fnNeighboursRow.holds Try.pinned (OpenSpec.ofChange fnNeighboursSpec)

/-- ITS FALSE NEIGHBOUR: 'it returns false'. Refute it at one input. -/
def fnNeighboursWrong : ChangeSpec := { name := "fnNeighbours", fn := fun _ => fun
  | [d1, d2] => { results := [.lit (.bool false)], args := [d1, d2] }
  | _ => none }
def FnNeighboursWrongFalsely : Prop := fnNeighboursRow.holds Try.pinned (OpenSpec.ofChange fnNeighboursWrong)

/-- 'laws.FnExactAssignCodes': WHATEVER THE INPUT: true; the input reads as it did. -/
def fnExactAssignCodesSpec : ChangeSpec := { name := "fnExactAssignCodes", fn := fun _ => fun
  | [d1, d2] => { results := [.lit (.bool true)], args := [d1, d2] }
  | _ => none }
def fnExactAssignCodesRow : OpenClaim := { program := "ytncbhafegccpmaa", sum := "1b37e2f94c63bc88c4aef470064f38675aeae3f9387a54b465dc4bf60d22053f", func := "loop.example/g00925/laws.FnExactAssignCodes", spec := "fnExactAssignCodes", unfollowed := true, recurses := true, apart := false }
def FnExactAssignCodesSaid : Prop := fnExactAssignCodesRow.holds Try.pinned (OpenSpec.ofChange fnExactAssignCodesSpec)

/-- ITS FALSE NEIGHBOUR: 'it returns false'. Refute it at one input. -/
def fnExactAssignCodesWrong : ChangeSpec := { name := "fnExactAssignCodes", fn := fun _ => fun
  | [d1, d2] => { results := [.lit (.bool false)], args := [d1, d2] }
  | _ => none }
def FnExactAssignCodesWrongFalsely : Prop := fnExactAssignCodesRow.holds Try.pinned (OpenSpec.ofChange fnExactAssignCodesWrong)

/- THE SECOND FORM. 'bulk': how many values and letters a reading holds, each counted each time it is reached (what is shared counts as often as it is met; a slice's spare places count too). A statement '..UptoSaid' is the law's where the arguments, and the package variables that the reading takes, are together of bulk at most 1048576: NARROWER than '..Said'. Prove '..Said' where nothing that the law and all that it calls make is longer than what came in: it says more and counts as full. Else prove '..UptoSaid'. A law counts once. -/
mutual
def uptoBulk {H : Type} : DataW H → Nat
  | .lit (.string bytes) => bytes.length + 1
  | .lit _ => 1
  | .nil => 1
  | .ptr d => uptoBulk d + 1
  | .slice elems spare => uptoBulkAll elems + uptoBulkAll spare + 1
  | .agg parts => uptoBulkAll parts + 1
  | .iface _ d => uptoBulk d + 1
  | .map entries => uptoBulkEntries entries + 1
  | .held _ => 1
def uptoBulkAll {H : Type} : List (DataW H) → Nat
  | [] => 0
  | d :: r => uptoBulk d + uptoBulkAll r
def uptoBulkEntries {H : Type} : List (Lit × DataW H) → Nat
  | [] => 0
  | x :: r => uptoBulkEntry x + uptoBulkEntries r
def uptoBulkEntry {H : Type} : Lit × DataW H → Nat
  | (.string bytes, d) => bytes.length + uptoBulk d + 1
  | (_, d) => uptoBulk d + 1
 end
def uptoSmall : (H : Type) → List (DataW H) → Bool := fun _ ds => decide (uptoBulkAll ds ≤ 1048576)
def OpenSpec.upto (s : _root_.Go.ChangeSpec) : _root_.Go.OpenSpec := { _root_.Go.OpenSpec.ofChange s with cond := some uptoSmall }

/-- 'laws.FnExactValidNeighbours', WHERE WHAT IT READS IS OF BULK AT MOST 1048576: true; the input reads as it did. -/
def fnExactValidNeighboursUptoRow : OpenClaim := { program := "ytncbhafegccpmaa", sum := "1b37e2f94c63bc88c4aef470064f38675aeae3f9387a54b465dc4bf60d22053f", func := "loop.example/g00925/laws.FnExactValidNeighbours", spec := "fnExactValidNeighbours", unfollowed := true, recurses := true, apart := false, narrowed := true }
def FnExactValidNeighboursUptoSaid : Prop := fnExactValidNeighboursUptoRow.holds Try.pinned (OpenSpec.upto fnExactValidNeighboursSpec)

/-- 'laws.FnExactMissingNeighbours', WHERE WHAT IT READS IS OF BULK AT MOST 1048576: true; the input reads as it did. -/
def fnExactMissingNeighboursUptoRow : OpenClaim := { program := "ytncbhafegccpmaa", sum := "1b37e2f94c63bc88c4aef470064f38675aeae3f9387a54b465dc4bf60d22053f", func := "loop.example/g00925/laws.FnExactMissingNeighbours", spec := "fnExactMissingNeighbours", unfollowed := true, recurses := true, apart := false, narrowed := true }
def FnExactMissingNeighboursUptoSaid : Prop := fnExactMissingNeighboursUptoRow.holds Try.pinned (OpenSpec.upto fnExactMissingNeighboursSpec)

/-- 'laws.FnExactSymmetricNeighbours', WHERE WHAT IT READS IS OF BULK AT MOST 1048576: true; the input reads as it did. -/
def fnExactSymmetricNeighboursUptoRow : OpenClaim := { program := "ytncbhafegccpmaa", sum := "1b37e2f94c63bc88c4aef470064f38675aeae3f9387a54b465dc4bf60d22053f", func := "loop.example/g00925/laws.FnExactSymmetricNeighbours", spec := "fnExactSymmetricNeighbours", unfollowed := true, recurses := true, apart := false, narrowed := true }
def FnExactSymmetricNeighboursUptoSaid : Prop := fnExactSymmetricNeighboursUptoRow.holds Try.pinned (OpenSpec.upto fnExactSymmetricNeighboursSpec)

/-- 'laws.FnExactNeighboursByPlace', WHERE WHAT IT READS IS OF BULK AT MOST 1048576: true; the input reads as it did. -/
def fnExactNeighboursByPlaceUptoRow : OpenClaim := { program := "ytncbhafegccpmaa", sum := "1b37e2f94c63bc88c4aef470064f38675aeae3f9387a54b465dc4bf60d22053f", func := "loop.example/g00925/laws.FnExactNeighboursByPlace", spec := "fnExactNeighboursByPlace", unfollowed := true, recurses := true, apart := false, narrowed := true }
def FnExactNeighboursByPlaceUptoSaid : Prop := fnExactNeighboursByPlaceUptoRow.holds Try.pinned (OpenSpec.upto fnExactNeighboursByPlaceSpec)

/-- 'laws.FnExactModuloClashes', WHERE WHAT IT READS IS OF BULK AT MOST 1048576: true; the input reads as it did. -/
def fnExactModuloClashesUptoRow : OpenClaim := { program := "ytncbhafegccpmaa", sum := "1b37e2f94c63bc88c4aef470064f38675aeae3f9387a54b465dc4bf60d22053f", func := "loop.example/g00925/laws.FnExactModuloClashes", spec := "fnExactModuloClashes", unfollowed := true, recurses := true, apart := false, narrowed := true }
def FnExactModuloClashesUptoSaid : Prop := fnExactModuloClashesUptoRow.holds Try.pinned (OpenSpec.upto fnExactModuloClashesSpec)

/-- 'laws.FnExactSecondNeighbours', WHERE WHAT IT READS IS OF BULK AT MOST 1048576: true; the input reads as it did. -/
def fnExactSecondNeighboursUptoRow : OpenClaim := { program := "ytncbhafegccpmaa", sum := "1b37e2f94c63bc88c4aef470064f38675aeae3f9387a54b465dc4bf60d22053f", func := "loop.example/g00925/laws.FnExactSecondNeighbours", spec := "fnExactSecondNeighbours", unfollowed := true, recurses := true, apart := false, narrowed := true }
def FnExactSecondNeighboursUptoSaid : Prop := fnExactSecondNeighboursUptoRow.holds Try.pinned (OpenSpec.upto fnExactSecondNeighboursSpec)

/-- 'laws.FnExactValidCodes', WHERE WHAT IT READS IS OF BULK AT MOST 1048576: true; the input reads as it did. -/
def fnExactValidCodesUptoRow : OpenClaim := { program := "ytncbhafegccpmaa", sum := "1b37e2f94c63bc88c4aef470064f38675aeae3f9387a54b465dc4bf60d22053f", func := "loop.example/g00925/laws.FnExactValidCodes", spec := "fnExactValidCodes", unfollowed := true, recurses := true, apart := false, narrowed := true }
def FnExactValidCodesUptoSaid : Prop := fnExactValidCodesUptoRow.holds Try.pinned (OpenSpec.upto fnExactValidCodesSpec)

/-- 'laws.FnNeighbours', WHERE WHAT IT READS IS OF BULK AT MOST 1048576: true; the input reads as it did. -/
def fnNeighboursUptoRow : OpenClaim := { program := "ytncbhafegccpmaa", sum := "1b37e2f94c63bc88c4aef470064f38675aeae3f9387a54b465dc4bf60d22053f", func := "loop.example/g00925/laws.FnNeighbours", spec := "fnNeighbours", unfollowed := true, recurses := true, apart := false, narrowed := true }
def FnNeighboursUptoSaid : Prop := fnNeighboursUptoRow.holds Try.pinned (OpenSpec.upto fnNeighboursSpec)

/-- 'laws.FnExactAssignCodes', WHERE WHAT IT READS IS OF BULK AT MOST 1048576: true; the input reads as it did. -/
def fnExactAssignCodesUptoRow : OpenClaim := { program := "ytncbhafegccpmaa", sum := "1b37e2f94c63bc88c4aef470064f38675aeae3f9387a54b465dc4bf60d22053f", func := "loop.example/g00925/laws.FnExactAssignCodes", spec := "fnExactAssignCodes", unfollowed := true, recurses := true, apart := false, narrowed := true }
def FnExactAssignCodesUptoSaid : Prop := fnExactAssignCodesUptoRow.holds Try.pinned (OpenSpec.upto fnExactAssignCodesSpec)

end Rows
end Go.Proofs.Ytncbhafegccpmaa
