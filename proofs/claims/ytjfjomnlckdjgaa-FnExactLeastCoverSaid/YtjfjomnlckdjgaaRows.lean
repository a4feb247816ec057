/-
  No cell of these rows narrows 'for every input' (looked for: loops, veiled, ifaces, maps, wideKeys, modest, calm, conditions, laid).
  DERIVED. THE GIVEN ROWS OF THIS SEAT. 12 by the template 'for every input the law returns true; each argument reads behind the call as it read before'; 0 by the template 'total and deterministic' (their statements: YtjfjomnlckdjgaaTotals.lean).
  GIVEN WITH THE SEED: the statements are not yours to turn. If you find one false, say at which input.
  Laid BY PROGRAM, IN A SANDBOX (cutbox-rows.mjs): the forced cells as the released guide's own fill.sh prints them over the translation 922f79199a920101… (all of the seat's roots in one cut). By AI agents, Wed Nov 11 2026. No macro, syntax, notation, axiom, sorry.
-/
import Derived.Test.YtjfjomnlckdjgaaChecked
import GoSem.Claim
import GoSem.ClaimJoined
import GoSem.ClaimMapViews
import Derived.JoinedTies
import Derived.KernelRfl
namespace Go.Proofs.Ytjfjomnlckdjgaa
/- THE CELL 'sum', in the pinned program and in every row, IS THE sha256 OF THE DUMP (.gsa) THAT YtjfjomnlckdjgaaProg.lean LOADS. Nothing in Lean hashes anything: it is a label: what it is worth is what the hold of that sum in a sandbox is worth. -/
noncomputable def Try.pinned : Pinned := { name := "ytjfjomnlckdjgaa", sum := "922f79199a9201018cde4c2cf81fa95453edce6dbca74537161d7eafab4206f3", checked := Try.checked }
namespace Rows
def none {H : Type} : Left H := { results := [], args := [] }

/-- 'laws.FnExactSameSiting': WHATEVER THE INPUT: true; the input reads as it did. -/
def fnExactSameSitingSpec : ChangeSpec := { name := "fnExactSameSiting", fn := fun _ => fun
  | [d1, d2] => { results := [.lit (.bool true)], args := [d1, d2] }
  | _ => none }
def fnExactSameSitingRow : OpenClaim := { program := "ytjfjomnlckdjgaa", sum := "922f79199a9201018cde4c2cf81fa95453edce6dbca74537161d7eafab4206f3", func := "loop.example/g00925/laws.FnExactSameSiting", spec := "fnExactSameSiting", unfollowed := true, recurses := true, apart := false }
def FnExactSameSitingSaid : Prop := fnExactSameSitingRow.holds Try.pinned (OpenSpec.ofChange fnExactSameSitingSpec)

/-- ITS FALSE NEIGHBOUR: 'it returns false'. Refute it at one input. -/
def fnExactSameSitingWrong : ChangeSpec := { name := "fnExactSameSiting", fn := fun _ => fun
  | [d1, d2] => { results := [.lit (.bool false)], args := [d1, d2] }
  | _ => none }
def FnExactSameSitingWrongFalsely : Prop := fnExactSameSitingRow.holds Try.pinned (OpenSpec.ofChange fnExactSameSitingWrong)

/-- 'laws.FnExactValidSiting': WHATEVER THE INPUT: true; the input reads as it did. -/
def fnExactValidSitingSpec : ChangeSpec := { name := "fnExactValidSiting", fn := fun _ => fun
  | [d] => { results := [.lit (.bool true)], args := [d] }
  | _ => none }
def fnExactValidSitingRow : OpenClaim := { program := "ytjfjomnlckdjgaa", sum := "922f79199a9201018cde4c2cf81fa95453edce6dbca74537161d7eafab4206f3", func := "loop.example/g00925/laws.FnExactValidSiting", spec := "fnExactValidSiting", unfollowed := true, recurses := true, apart := false }
def FnExactValidSitingSaid : Prop := fnExactValidSitingRow.holds Try.pinned (OpenSpec.ofChange fnExactValidSitingSpec)

/-- ITS FALSE NEIGHBOUR: 'it returns false'. Refute it at one input. -/
def fnExactValidSitingWrong : ChangeSpec := { name := "fnExactValidSiting", fn := fun _ => fun
  | [d] => { results := [.lit (.bool false)], args := [d] }
  | _ => none }
def FnExactValidSitingWrongFalsely : Prop := fnExactValidSitingRow.holds Try.pinned (OpenSpec.ofChange fnExactValidSitingWrong)

/-- 'laws.FnExactCostOf': WHATEVER THE INPUT: true; the input reads as it did. -/
def fnExactCostOfSpec : ChangeSpec := { name := "fnExactCostOf", fn := fun _ => fun
  | [d1, d2] => { results := [.lit (.bool true)], args := [d1, d2] }
  | _ => none }
def fnExactCostOfRow : OpenClaim := { program := "ytjfjomnlckdjgaa", sum := "922f79199a9201018cde4c2cf81fa95453edce6dbca74537161d7eafab4206f3", func := "loop.example/g00925/laws.FnExactCostOf", spec := "fnExactCostOf", unfollowed := true, recurses := true, apart := false }
def FnExactCostOfSaid : Prop := fnExactCostOfRow.holds Try.pinned (OpenSpec.ofChange fnExactCostOfSpec)

/-- ITS FALSE NEIGHBOUR: 'it returns false'. Refute it at one input. -/
def fnExactCostOfWrong : ChangeSpec := { name := "fnExactCostOf", fn := fun _ => fun
  | [d1, d2] => { results := [.lit (.bool false)], args := [d1, d2] }
  | _ => none }
def FnExactCostOfWrongFalsely : Prop := fnExactCostOfRow.holds Try.pinned (OpenSpec.ofChange fnExactCostOfWrong)

/-- 'laws.FnExactWeightOf': WHATEVER THE INPUT: true; the input reads as it did. -/
def fnExactWeightOfSpec : ChangeSpec := { name := "fnExactWeightOf", fn := fun _ => fun
  | [d1, d2] => { results := [.lit (.bool true)], args := [d1, d2] }
  | _ => none }
def fnExactWeightOfRow : OpenClaim := { program := "ytjfjomnlckdjgaa", sum := "922f79199a9201018cde4c2cf81fa95453edce6dbca74537161d7eafab4206f3", func := "loop.example/g00925/laws.FnExactWeightOf", spec := "fnExactWeightOf", unfollowed := true, recurses := true, apart := false }
def FnExactWeightOfSaid : Prop := fnExactWeightOfRow.holds Try.pinned (OpenSpec.ofChange fnExactWeightOfSpec)

/-- ITS FALSE NEIGHBOUR: 'it returns false'. Refute it at one input. -/
def fnExactWeightOfWrong : ChangeSpec := { name := "fnExactWeightOf", fn := fun _ => fun
  | [d1, d2] => { results := [.lit (.bool false)], args := [d1, d2] }
  | _ => none }
def FnExactWeightOfWrongFalsely : Prop := fnExactWeightOfRow.holds Try.pinned (OpenSpec.ofChange fnExactWeightOfWrong)

/-- 'laws.FnExactCoveredBy': WHATEVER THE INPUT: true; the input reads as it did. -/
def fnExactCoveredBySpec : ChangeSpec := { name := "fnExactCoveredBy", fn := fun _ => fun
  | [d1, d2] => { results := [.lit (.bool true)], args := [d1, d2] }
  | _ => none }
def fnExactCoveredByRow : OpenClaim := { program := "ytjfjomnlckdjgaa", sum := "922f79199a9201018cde4c2cf81fa95453edce6dbca74537161d7eafab4206f3", func := "loop.example/g00925/laws.FnExactCoveredBy", spec := "fnExactCoveredBy", unfollowed := true, recurses := true, apart := false }
def FnExactCoveredBySaid : Prop := fnExactCoveredByRow.holds Try.pinned (OpenSpec.ofChange fnExactCoveredBySpec)

/-- ITS FALSE NEIGHBOUR: 'it returns false'. Refute it at one input. -/
def fnExactCoveredByWrong : ChangeSpec := { name := "fnExactCoveredBy", fn := fun _ => fun
  | [d1, d2] => { results := [.lit (.bool false)], args := [d1, d2] }
  | _ => none }
def FnExactCoveredByWrongFalsely : Prop := fnExactCoveredByRow.holds Try.pinned (OpenSpec.ofChange fnExactCoveredByWrong)

/-- 'laws.FnExactUncoveredBy': WHATEVER THE INPUT: true; the input reads as it did. -/
def fnExactUncoveredBySpec : ChangeSpec := { name := "fnExactUncoveredBy", fn := fun _ => fun
  | [d1, d2] => { results := [.lit (.bool true)], args := [d1, d2] }
  | _ => none }
def fnExactUncoveredByRow : OpenClaim := { program := "ytjfjomnlckdjgaa", sum := "922f79199a9201018cde4c2cf81fa95453edce6dbca74537161d7eafab4206f3", func := "loop.example/g00925/laws.FnExactUncoveredBy", spec := "fnExactUncoveredBy", unfollowed := true, recurses := true, apart := false }
def FnExactUncoveredBySaid : Prop := fnExactUncoveredByRow.holds Try.pinned (OpenSpec.ofChange fnExactUncoveredBySpec)

/-- ITS FALSE NEIGHBOUR: 'it returns false'. Refute it at one input. -/
def fnExactUncoveredByWrong : ChangeSpec := { name := "fnExactUncoveredBy", fn := fun _ => fun
  | [d1, d2] => { results := [.lit (.bool false)], args := [d1, d2] }
  | _ => none }
def FnExactUncoveredByWrongFalsely : Prop := fnExactUncoveredByRow.holds Try.pinned (OpenSpec.ofChange fnExactUncoveredByWrong)

/-- 'laws.FnExactGainOf': WHATEVER THE INPUT: true; the input reads as it did. -/
def fnExactGainOfSpec : ChangeSpec := { name := "fnExactGainOf", fn := fun _ => fun
  | [d1, d2, d3] => { results := [.lit (.bool true)], args := [d1, d2, d3] }
  | _ => none }
def fnExactGainOfRow : OpenClaim := { program := "ytjfjomnlckdjgaa", sum := "922f79199a9201018cde4c2cf81fa95453edce6dbca74537161d7eafab4206f3", func := "loop.example/g00925/laws.FnExactGainOf", spec := "fnExactGainOf", unfollowed := true, recurses := true, apart := false }
def FnExactGainOfSaid : Prop := fnExactGainOfRow.holds Try.pinned (OpenSpec.ofChange fnExactGainOfSpec)

/-- ITS FALSE NEIGHBOUR: 'it returns false'. Refute it at one input. -/
def fnExactGainOfWrong : ChangeSpec := { name := "fnExactGainOf", fn := fun _ => fun
  | [d1, d2, d3] => { results := [.lit (.bool false)], args := [d1, d2, d3] }
  | _ => none }
def FnExactGainOfWrongFalsely : Prop := fnExactGainOfRow.holds Try.pinned (OpenSpec.ofChange fnExactGainOfWrong)

/-- 'laws.FnExactPruneChoice': WHATEVER THE INPUT: true; the input reads as it did. -/
def fnExactPruneChoiceSpec : ChangeSpec := { name := "fnExactPruneChoice", fn := fun _ => fun
  | [d1, d2] => { results := [.lit (.bool true)], args := [d1, d2] }
  | _ => none }
def fnExactPruneChoiceRow : OpenClaim := { program := "ytjfjomnlckdjgaa", sum := "922f79199a9201018cde4c2cf81fa95453edce6dbca74537161d7eafab4206f3", func := "loop.example/g00925/laws.FnExactPruneChoice", spec := "fnExactPruneChoice", unfollowed := true, recurses := true, apart := false }
def FnExactPruneChoiceSaid : Prop := fnExactPruneChoiceRow.holds Try.pinned (OpenSpec.ofChange fnExactPruneChoiceSpec)

/-- ITS FALSE NEIGHBOUR: 'it returns false'. Refute it at one input. -/
def fnExactPruneChoiceWrong : ChangeSpec := { name := "fnExactPruneChoice", fn := fun _ => fun
  | [d1, d2] => { results := [.lit (.bool false)], args := [d1, d2] }
  | _ => none }
def FnExactPruneChoiceWrongFalsely : Prop := fnExactPruneChoiceRow.holds Try.pinned (OpenSpec.ofChange fnExactPruneChoiceWrong)

/-- 'laws.FnExactBestChoice': WHATEVER THE INPUT: true; the input reads as it did. -/
def fnExactBestChoiceSpec : ChangeSpec := { name := "fnExactBestChoice", fn := fun _ => fun
  | [d1, d2, d3] => { results := [.lit (.bool true)], args := [d1, d2, d3] }
  | _ => none }
def fnExactBestChoiceRow : OpenClaim := { program := "ytjfjomnlckdjgaa", sum := "922f79199a9201018cde4c2cf81fa95453edce6dbca74537161d7eafab4206f3", func := "loop.example/g00925/laws.FnExactBestChoice", spec := "fnExactBestChoice", unfollowed := true, recurses := true, apart := false }
def FnExactBestChoiceSaid : Prop := fnExactBestChoiceRow.holds Try.pinned (OpenSpec.ofChange fnExactBestChoiceSpec)

/-- ITS FALSE NEIGHBOUR: 'it returns false'. Refute it at one input. -/
def fnExactBestChoiceWrong : ChangeSpec := { name := "fnExactBestChoice", fn := fun _ => fun
  | [d1, d2, d3] => { results := [.lit (.bool false)], args := [d1, d2, d3] }
  | _ => none }
def FnExactBestChoiceWrongFalsely : Prop := fnExactBestChoiceRow.holds Try.pinned (OpenSpec.ofChange fnExactBestChoiceWrong)

/-- 'laws.FnExactLeastCover': WHATEVER THE INPUT: true; the input reads as it did. -/
def fnExactLeastCoverSpec : ChangeSpec := { name := "fnExactLeastCover", fn := fun _ => fun
  | [d1, d2] => { results := [.lit (.bool true)], args := [d1, d2] }
  | _ => none }
def fnExactLeastCoverRow : OpenClaim := { program := "ytjfjomnlckdjgaa", sum := "922f79199a9201018cde4c2cf81fa95453edce6dbca74537161d7eafab4206f3", func := "loop.example/g00925/laws.FnExactLeastCover", spec := "fnExactLeastCover", unfollowed := true, recurses := true, apart := false }
def FnExactLeastCoverSaid : Prop := fnExactLeastCoverRow.holds Try.pinned (OpenSpec.ofChange fnExactLeastCoverSpec)

/-- ITS FALSE NEIGHBOUR: 'it returns false'. Refute it at one input. -/
def fnExactLeastCoverWrong : ChangeSpec := { name := "fnExactLeastCover", fn := fun _ => fun
  | [d1, d2] => { results := [.lit (.bool false)], args := [d1, d2] }
  | _ => none }
def FnExactLeastCoverWrongFalsely : Prop := fnExactLeastCoverRow.holds Try.pinned (OpenSpec.ofChange fnExactLeastCoverWrong)

/-- 'laws.FnExactGreedyCover': WHATEVER THE INPUT: true; the input reads as it did. -/
def fnExactGreedyCoverSpec : ChangeSpec := { name := "fnExactGreedyCover", fn := fun _ => fun
  | [d] => { results := [.lit (.bool true)], args := [d] }
  | _ => none }
def fnExactGreedyCoverRow : OpenClaim := { program := "ytjfjomnlckdjgaa", sum := "922f79199a9201018cde4c2cf81fa95453edce6dbca74537161d7eafab4206f3", func := "loop.example/g00925/laws.FnExactGreedyCover", spec := "fnExactGreedyCover", unfollowed := true, recurses := true, apart := false }
def FnExactGreedyCoverSaid : Prop := fnExactGreedyCoverRow.holds Try.pinned (OpenSpec.ofChange fnExactGreedyCoverSpec)

/-- ITS FALSE NEIGHBOUR: 'it returns false'. Refute it at one input. -/
def fnExactGreedyCoverWrong : ChangeSpec := { name := "fnExactGreedyCover", fn := fun _ => fun
  | [d] => { results := [.lit (.bool false)], args := [d] }
  | _ => none }
def FnExactGreedyCoverWrongFalsely : Prop := fnExactGreedyCoverRow.holds Try.pinned (OpenSpec.ofChange fnExactGreedyCoverWrong)

/-- 'laws.FnExactGreedyChoice': WHATEVER THE INPUT: true; the input reads as it did. -/
def fnExactGreedyChoiceSpec : ChangeSpec := { name := "fnExactGreedyChoice", fn := fun _ => fun
  | [d1, d2] => { results := [.lit (.bool true)], args := [d1, d2] }
  | _ => none }
def fnExactGreedyChoiceRow : OpenClaim := { program := "ytjfjomnlckdjgaa", sum := "922f79199a9201018cde4c2cf81fa95453edce6dbca74537161d7eafab4206f3", func := "loop.example/g00925/laws.FnExactGreedyChoice", spec := "fnExactGreedyChoice", unfollowed := true, recurses := true, apart := false }
def FnExactGreedyChoiceSaid : Prop := fnExactGreedyChoiceRow.holds Try.pinned (OpenSpec.ofChange fnExactGreedyChoiceSpec)

/-- ITS FALSE NEIGHBOUR: 'it returns false'. Refute it at one input. -/
def fnExactGreedyChoiceWrong : ChangeSpec := { name := "fnExactGreedyChoice", fn := fun _ => fun
  | [d1, d2] => { results := [.lit (.bool false)], args := [d1, d2] }
  | _ => none }
def FnExactGreedyChoiceWrongFalsely : Prop := fnExactGreedyChoiceRow.holds Try.pinned (OpenSpec.ofChange fnExactGreedyChoiceWrong)

/- THE SECOND FORM. 'bulk': how many values and letters a reading holds, each counted each time it is reached (what is shared counts as often as it is met; a slice's spare places count too). A statement '..UptoSaid' is the law's where the arguments, and the package variables that the reading takes, are together of bulk at most 1048576: NARROWER than '..Said'. Prove '..Said' where nothing that the law and all that it calls make is longer than what came in: it says more and counts as full. Else prove '..UptoSaid'. A law counts once. -/
mutual
def uptoBulk {H : Type} : DataW H → Nat
  | .lit (.string bytes) => bytes.length + 1
  | .lit _ => 1
  | .nil => 1
  | .ptr d => uptoBulk d + 1
  | .slice elems spare => uptoBulkAll elems + uptoBulkAll spare + 1
  | .agg parts => uptoBulkAll parts + 1
  | .iface _ d => uptoBulk d + 1
  | .map entries => uptoBulkEntries entries + 1
  | .held _ => 1
def uptoBulkAll {H : Type} : List (DataW H) → Nat
  | [] => 0
  | d :: r => uptoBulk d + uptoBulkAll r
def uptoBulkEntries {H : Type} : List (Lit × DataW H) → Nat
  | [] => 0
  | x :: r => uptoBulkEntry x + uptoBulkEntries r
def uptoBulkEntry {H : Type} : Lit × DataW H → Nat
  | (.string bytes, d) => bytes.length + uptoBulk d + 1
  | (_, d) => uptoBulk d + 1
 end
def uptoSmall : (H : Type) → List (DataW H) → Bool := fun _ ds => decide (uptoBulkAll ds ≤ 1048576)
def OpenSpec.upto (s : _root_.Go.ChangeSpec) : _root_.Go.OpenSpec := { _root_.Go.OpenSpec.ofChange s with cond := some uptoSmall }

/-- 'laws.FnExactSameSiting', WHERE WHAT IT READS IS OF BULK AT MOST 1048576: true; the input reads as it did. -/
def fnExactSameSitingUptoRow : OpenClaim := { program := "ytjfjomnlckdjgaa", sum := "922f79199a9201018cde4c2cf81fa95453edce6dbca74537161d7eafab4206f3", func := "loop.example/g00925/laws.FnExactSameSiting", spec := "fnExactSameSiting", unfollowed := true, recurses := true, apart := false, narrowed := true }
def FnExactSameSitingUptoSaid : Prop := fnExactSameSitingUptoRow.holds Try.pinned (OpenSpec.upto fnExactSameSitingSpec)

/-- 'laws.FnExactValidSiting', WHERE WHAT IT READS IS OF BULK AT MOST 1048576: true; the input reads as it did. -/
def fnExactValidSitingUptoRow : OpenClaim := { program := "ytjfjomnlckdjgaa", sum := "922f79199a9201018cde4c2cf81fa95453edce6dbca74537161d7eafab4206f3", func := "loop.example/g00925/laws.FnExactValidSiting", spec := "fnExactValidSiting", unfollowed := true, recurses := true, apart := false, narrowed := true }
def FnExactValidSitingUptoSaid : Prop := fnExactValidSitingUptoRow.holds Try.pinned (OpenSpec.upto fnExactValidSitingSpec)

/-- 'laws.FnExactCostOf', WHERE WHAT IT READS IS OF BULK AT MOST 1048576: true; the input reads as it did. -/
def fnExactCostOfUptoRow : OpenClaim := { program := "ytjfjomnlckdjgaa", sum := "922f79199a9201018cde4c2cf81fa95453edce6dbca74537161d7eafab4206f3", func := "loop.example/g00925/laws.FnExactCostOf", spec := "fnExactCostOf", unfollowed := true, recurses := true, apart := false, narrowed := true }
def FnExactCostOfUptoSaid : Prop := fnExactCostOfUptoRow.holds Try.pinned (OpenSpec.upto fnExactCostOfSpec)

/-- 'laws.FnExactWeightOf', WHERE WHAT IT READS IS OF BULK AT MOST 1048576: true; the input reads as it did. -/
def fnExactWeightOfUptoRow : OpenClaim := { program := "ytjfjomnlckdjgaa", sum := "922f79199a9201018cde4c2cf81fa95453edce6dbca74537161d7eafab4206f3", func := "loop.example/g00925/laws.FnExactWeightOf", spec := "fnExactWeightOf", unfollowed := true, recurses := true, apart := false, narrowed := true }
def FnExactWeightOfUptoSaid : Prop := fnExactWeightOfUptoRow.holds Try.pinned (OpenSpec.upto fnExactWeightOfSpec)

/-- 'laws.FnExactCoveredBy', WHERE WHAT IT READS IS OF BULK AT MOST 1048576: true; the input reads as it did. -/
def fnExactCoveredByUptoRow : OpenClaim := { program := "ytjfjomnlckdjgaa", sum := "922f79199a9201018cde4c2cf81fa95453edce6dbca74537161d7eafab4206f3", func := "loop.example/g00925/laws.FnExactCoveredBy", spec := "fnExactCoveredBy", unfollowed := true, recurses := true, apart := false, narrowed := true }
def FnExactCoveredByUptoSaid : Prop := fnExactCoveredByUptoRow.holds Try.pinned (OpenSpec.upto fnExactCoveredBySpec)

/-- 'laws.FnExactUncoveredBy', WHERE WHAT IT READS IS OF BULK AT MOST 1048576: true; the input reads as it did. -/
def fnExactUncoveredByUptoRow : OpenClaim := { program := "ytjfjomnlckdjgaa", sum := "922f79199a9201018cde4c2cf81fa95453edce6dbca74537161d7eafab4206f3", func := "loop.example/g00925/laws.FnExactUncoveredBy", spec := "fnExactUncoveredBy", unfollowed := true, recurses := true, apart := false, narrowed := true }
def FnExactUncoveredByUptoSaid : Prop := fnExactUncoveredByUptoRow.holds Try.pinned (OpenSpec.upto fnExactUncoveredBySpec)

/-- 'laws.FnExactGainOf', WHERE WHAT IT READS IS OF BULK AT MOST 1048576: true; the input reads as it did. -/
def fnExactGainOfUptoRow : OpenClaim := { program := "ytjfjomnlckdjgaa", sum := "922f79199a9201018cde4c2cf81fa95453edce6dbca74537161d7eafab4206f3", func := "loop.example/g00925/laws.FnExactGainOf", spec := "fnExactGainOf", unfollowed := true, recurses := true, apart := false, narrowed := true }
def FnExactGainOfUptoSaid : Prop := fnExactGainOfUptoRow.holds Try.pinned (OpenSpec.upto fnExactGainOfSpec)

/-- 'laws.FnExactPruneChoice', WHERE WHAT IT READS IS OF BULK AT MOST 1048576: true; the input reads as it did. -/
def fnExactPruneChoiceUptoRow : OpenClaim := { program := "ytjfjomnlckdjgaa", sum := "922f79199a9201018cde4c2cf81fa95453edce6dbca74537161d7eafab4206f3", func := "loop.example/g00925/laws.FnExactPruneChoice", spec := "fnExactPruneChoice", unfollowed := true, recurses := true, apart := false, narrowed := true }
def FnExactPruneChoiceUptoSaid : Prop := fnExactPruneChoiceUptoRow.holds Try.pinned (OpenSpec.upto fnExactPruneChoiceSpec)

/-- 'laws.FnExactBestChoice', WHERE WHAT IT READS IS OF BULK AT MOST 1048576: true; the input reads as it did. -/
def fnExactBestChoiceUptoRow : OpenClaim := { program := "ytjfjomnlckdjgaa", sum := "922f79199a9201018cde4c2cf81fa95453edce6dbca74537161d7eafab4206f3", func := "loop.example/g00925/laws.FnExactBestChoice", spec := "fnExactBestChoice", unfollowed := true, recurses := true, apart := false, narrowed := true }
def FnExactBestChoiceUptoSaid : Prop := fnExactBestChoiceUptoRow.holds Try.pinned (OpenSpec.upto fnExactBestChoiceSpec)

/-- 'laws.FnExactLeastCover', WHERE WHAT IT READS IS OF BULK AT MOST 1048576: true; the input reads as it did. -/
def fnExactLeastCoverUptoRow : OpenClaim := { program := "ytjfjomnlckdjgaa", sum := "922f79199a9201018cde4c2cf81fa95453edce6dbca74537161d7eafab4206f3", func := "loop.example/g00925/laws.FnExactLeastCover", spec := "fnExactLeastCover", unfollowed := true, recurses := true, apart := false, narrowed := true }
def FnExactLeastCoverUptoSaid : Prop := fnExactLeastCoverUptoRow.holds Try.pinned (OpenSpec.upto fnExactLeastCoverSpec)

/-- 'laws.FnExactGreedyCover', WHERE WHAT IT READS IS OF BULK AT MOST 1048576: true; the input reads as it did. -/
def fnExactGreedyCoverUptoRow : OpenClaim := { program := "ytjfjomnlckdjgaa", sum := "922f79199a9201018cde4c2cf81fa95453edce6dbca74537161d7eafab4206f3", func := "loop.example/g00925/laws.FnExactGreedyCover", spec := "fnExactGreedyCover", unfollowed := true, recurses := true, apart := false, narrowed := true }
def FnExactGreedyCoverUptoSaid : Prop := fnExactGreedyCoverUptoRow.holds Try.pinned (OpenSpec.upto fnExactGreedyCoverSpec)

/-- 'laws.FnExactGreedyChoice', WHERE WHAT IT READS IS OF BULK AT MOST 1048576: true; the input reads as it did. -/
def fnExactGreedyChoiceUptoRow : OpenClaim := { program := "ytjfjomnlckdjgaa", sum := "922f79199a9201018cde4c2cf81fa95453edce6dbca74537161d7eafab4206f3", func := "loop.example/g00925/laws.FnExactGreedyChoice", spec := "fnExactGreedyChoice", unfollowed := true, recurses := true, apart := false, narrowed := true }
def FnExactGreedyChoiceUptoSaid : Prop := fnExactGreedyChoiceUptoRow.holds Try.pinned (OpenSpec.upto fnExactGreedyChoiceSpec)

end Rows
end Go.Proofs.Ytjfjomnlckdjgaa
