/-
  No cell of these rows narrows 'for every input' (looked for: loops, veiled, ifaces, maps, wideKeys, modest, calm, conditions, laid).
  DERIVED. THE GIVEN ROWS OF THIS SEAT. 11 by the template 'for every input the law returns true; each argument reads behind the call as it read before'; 0 by the template 'total and deterministic' (their statements: YtdbongnhdlbplaaTotals.lean).
  GIVEN WITH THE SEED: the statements are not yours to turn. If you find one false, say at which input.
  Laid BY PROGRAM, IN A SANDBOX (cutbox-rows.mjs): the forced cells as the released guide's own fill.sh prints them over the translation d5503e15f00c2dc2… (all of the seat's roots in one cut). By AI agents, Wed Nov 11 2026. No macro, syntax, notation, axiom, sorry.
-/
import Derived.Test.YtdbongnhdlbplaaChecked
import GoSem.Claim
import GoSem.ClaimJoined
import GoSem.ClaimMapViews
import Derived.JoinedTies
import Derived.KernelRfl
namespace Go.Proofs.Ytdbongnhdlbplaa
/- THE CELL 'sum', in the pinned program and in every row, IS THE sha256 OF THE DUMP (.gsa) THAT YtdbongnhdlbplaaProg.lean LOADS. Nothing in Lean hashes anything: it is a label: what it is worth is what the hold of that sum in a sandbox is worth. -/
noncomputable def Try.pinned : Pinned := { name := "ytdbongnhdlbplaa", sum := "d5503e15f00c2dc29408ffc3cfd10bb4dec74e52e4461a8d5b19cf2882adc7d2", checked := Try.checked }
namespace Rows
def none {H : Type} : Left H := { results := [], args := [] }

/-- 'laws.FnExactCoveredCells': WHATEVER THE INPUT: true; the input reads as it did. -/
def fnExactCoveredCellsSpec : ChangeSpec := { name := "fnExactCoveredCells", fn := fun _ => fun
  | [d] => { results := [.lit (.bool true)], args := [d] }
  | _ => none }
def fnExactCoveredCellsRow : OpenClaim := { program := "ytdbongnhdlbplaa", sum := "d5503e15f00c2dc29408ffc3cfd10bb4dec74e52e4461a8d5b19cf2882adc7d2", func := "loop.example/g00925/laws.FnExactCoveredCells", spec := "fnExactCoveredCells", unfollowed := true, recurses := true, apart := false }
def FnExactCoveredCellsSaid : Prop := fnExactCoveredCellsRow.holds Try.pinned (OpenSpec.ofChange fnExactCoveredCellsSpec)

/-- ITS FALSE NEIGHBOUR: 'it returns false'. Refute it at one input. -/
def fnExactCoveredCellsWrong : ChangeSpec := { name := "fnExactCoveredCells", fn := fun _ => fun
  | [d] => { results := [.lit (.bool false)], args := [d] }
  | _ => none }
def FnExactCoveredCellsWrongFalsely : Prop := fnExactCoveredCellsRow.holds Try.pinned (OpenSpec.ofChange fnExactCoveredCellsWrong)

/-- 'laws.FnExactAreaCovered': WHATEVER THE INPUT: true; the input reads as it did. -/
def fnExactAreaCoveredSpec : ChangeSpec := { name := "fnExactAreaCovered", fn := fun _ => fun
  | [d] => { results := [.lit (.bool true)], args := [d] }
  | _ => none }
def fnExactAreaCoveredRow : OpenClaim := { program := "ytdbongnhdlbplaa", sum := "d5503e15f00c2dc29408ffc3cfd10bb4dec74e52e4461a8d5b19cf2882adc7d2", func := "loop.example/g00925/laws.FnExactAreaCovered", spec := "fnExactAreaCovered", unfollowed := true, recurses := true, apart := false }
def FnExactAreaCoveredSaid : Prop := fnExactAreaCoveredRow.holds Try.pinned (OpenSpec.ofChange fnExactAreaCoveredSpec)

/-- ITS FALSE NEIGHBOUR: 'it returns false'. Refute it at one input. -/
def fnExactAreaCoveredWrong : ChangeSpec := { name := "fnExactAreaCovered", fn := fun _ => fun
  | [d] => { results := [.lit (.bool false)], args := [d] }
  | _ => none }
def FnExactAreaCoveredWrongFalsely : Prop := fnExactAreaCoveredRow.holds Try.pinned (OpenSpec.ofChange fnExactAreaCoveredWrong)

/-- 'laws.FnExactCoveredShare': WHATEVER THE INPUT: true; the input reads as it did. -/
def fnExactCoveredShareSpec : ChangeSpec := { name := "fnExactCoveredShare", fn := fun _ => fun
  | [d] => { results := [.lit (.bool true)], args := [d] }
  | _ => none }
def fnExactCoveredShareRow : OpenClaim := { program := "ytdbongnhdlbplaa", sum := "d5503e15f00c2dc29408ffc3cfd10bb4dec74e52e4461a8d5b19cf2882adc7d2", func := "loop.example/g00925/laws.FnExactCoveredShare", spec := "fnExactCoveredShare", unfollowed := true, recurses := true, apart := false }
def FnExactCoveredShareSaid : Prop := fnExactCoveredShareRow.holds Try.pinned (OpenSpec.ofChange fnExactCoveredShareSpec)

/-- ITS FALSE NEIGHBOUR: 'it returns false'. Refute it at one input. -/
def fnExactCoveredShareWrong : ChangeSpec := { name := "fnExactCoveredShare", fn := fun _ => fun
  | [d] => { results := [.lit (.bool false)], args := [d] }
  | _ => none }
def FnExactCoveredShareWrongFalsely : Prop := fnExactCoveredShareRow.holds Try.pinned (OpenSpec.ofChange fnExactCoveredShareWrong)

/-- 'laws.FnExactCoveredPeople': WHATEVER THE INPUT: true; the input reads as it did. -/
def fnExactCoveredPeopleSpec : ChangeSpec := { name := "fnExactCoveredPeople", fn := fun _ => fun
  | [d1, d2] => { results := [.lit (.bool true)], args := [d1, d2] }
  | _ => none }
def fnExactCoveredPeopleRow : OpenClaim := { program := "ytdbongnhdlbplaa", sum := "d5503e15f00c2dc29408ffc3cfd10bb4dec74e52e4461a8d5b19cf2882adc7d2", func := "loop.example/g00925/laws.FnExactCoveredPeople", spec := "fnExactCoveredPeople", unfollowed := true, recurses := true, apart := false }
def FnExactCoveredPeopleSaid : Prop := fnExactCoveredPeopleRow.holds Try.pinned (OpenSpec.ofChange fnExactCoveredPeopleSpec)

/-- ITS FALSE NEIGHBOUR: 'it returns false'. Refute it at one input. -/
def fnExactCoveredPeopleWrong : ChangeSpec := { name := "fnExactCoveredPeople", fn := fun _ => fun
  | [d1, d2] => { results := [.lit (.bool false)], args := [d1, d2] }
  | _ => none }
def FnExactCoveredPeopleWrongFalsely : Prop := fnExactCoveredPeopleRow.holds Try.pinned (OpenSpec.ofChange fnExactCoveredPeopleWrong)

/-- 'laws.FnExactWeakCells': WHATEVER THE INPUT: true; the input reads as it did. -/
def fnExactWeakCellsSpec : ChangeSpec := { name := "fnExactWeakCells", fn := fun _ => fun
  | [d1, d2] => { results := [.lit (.bool true)], args := [d1, d2] }
  | _ => none }
def fnExactWeakCellsRow : OpenClaim := { program := "ytdbongnhdlbplaa", sum := "d5503e15f00c2dc29408ffc3cfd10bb4dec74e52e4461a8d5b19cf2882adc7d2", func := "loop.example/g00925/laws.FnExactWeakCells", spec := "fnExactWeakCells", unfollowed := true, recurses := true, apart := false }
def FnExactWeakCellsSaid : Prop := fnExactWeakCellsRow.holds Try.pinned (OpenSpec.ofChange fnExactWeakCellsSpec)

/-- ITS FALSE NEIGHBOUR: 'it returns false'. Refute it at one input. -/
def fnExactWeakCellsWrong : ChangeSpec := { name := "fnExactWeakCells", fn := fun _ => fun
  | [d1, d2] => { results := [.lit (.bool false)], args := [d1, d2] }
  | _ => none }
def FnExactWeakCellsWrongFalsely : Prop := fnExactWeakCellsRow.holds Try.pinned (OpenSpec.ofChange fnExactWeakCellsWrong)

/-- 'laws.FnExactHistogramOf': WHATEVER THE INPUT: true; the input reads as it did. -/
def fnExactHistogramOfSpec : ChangeSpec := { name := "fnExactHistogramOf", fn := fun _ => fun
  | [d1, d2, d3, d4] => { results := [.lit (.bool true)], args := [d1, d2, d3, d4] }
  | _ => none }
def fnExactHistogramOfRow : OpenClaim := { program := "ytdbongnhdlbplaa", sum := "d5503e15f00c2dc29408ffc3cfd10bb4dec74e52e4461a8d5b19cf2882adc7d2", func := "loop.example/g00925/laws.FnExactHistogramOf", spec := "fnExactHistogramOf", unfollowed := true, recurses := true, apart := false }
def FnExactHistogramOfSaid : Prop := fnExactHistogramOfRow.holds Try.pinned (OpenSpec.ofChange fnExactHistogramOfSpec)

/-- ITS FALSE NEIGHBOUR: 'it returns false'. Refute it at one input. -/
def fnExactHistogramOfWrong : ChangeSpec := { name := "fnExactHistogramOf", fn := fun _ => fun
  | [d1, d2, d3, d4] => { results := [.lit (.bool false)], args := [d1, d2, d3, d4] }
  | _ => none }
def FnExactHistogramOfWrongFalsely : Prop := fnExactHistogramOfRow.holds Try.pinned (OpenSpec.ofChange fnExactHistogramOfWrong)

/-- 'laws.FnExactMergeRasters': WHATEVER THE INPUT: true; the input reads as it did. -/
def fnExactMergeRastersSpec : ChangeSpec := { name := "fnExactMergeRasters", fn := fun _ => fun
  | [d1, d2] => { results := [.lit (.bool true)], args := [d1, d2] }
  | _ => none }
def fnExactMergeRastersRow : OpenClaim := { program := "ytdbongnhdlbplaa", sum := "d5503e15f00c2dc29408ffc3cfd10bb4dec74e52e4461a8d5b19cf2882adc7d2", func := "loop.example/g00925/laws.FnExactMergeRasters", spec := "fnExactMergeRasters", unfollowed := true, recurses := true, apart := false }
def FnExactMergeRastersSaid : Prop := fnExactMergeRastersRow.holds Try.pinned (OpenSpec.ofChange fnExactMergeRastersSpec)

/-- ITS FALSE NEIGHBOUR: 'it returns false'. Refute it at one input. -/
def fnExactMergeRastersWrong : ChangeSpec := { name := "fnExactMergeRasters", fn := fun _ => fun
  | [d1, d2] => { results := [.lit (.bool false)], args := [d1, d2] }
  | _ => none }
def FnExactMergeRastersWrongFalsely : Prop := fnExactMergeRastersRow.holds Try.pinned (OpenSpec.ofChange fnExactMergeRastersWrong)

/-- 'laws.FnExactServerCells': WHATEVER THE INPUT: true; the input reads as it did. -/
def fnExactServerCellsSpec : ChangeSpec := { name := "fnExactServerCells", fn := fun _ => fun
  | [d] => { results := [.lit (.bool true)], args := [d] }
  | _ => none }
def fnExactServerCellsRow : OpenClaim := { program := "ytdbongnhdlbplaa", sum := "d5503e15f00c2dc29408ffc3cfd10bb4dec74e52e4461a8d5b19cf2882adc7d2", func := "loop.example/g00925/laws.FnExactServerCells", spec := "fnExactServerCells", unfollowed := true, recurses := true, apart := false }
def FnExactServerCellsSaid : Prop := fnExactServerCellsRow.holds Try.pinned (OpenSpec.ofChange fnExactServerCellsSpec)

/-- ITS FALSE NEIGHBOUR: 'it returns false'. Refute it at one input. -/
def fnExactServerCellsWrong : ChangeSpec := { name := "fnExactServerCells", fn := fun _ => fun
  | [d] => { results := [.lit (.bool false)], args := [d] }
  | _ => none }
def FnExactServerCellsWrongFalsely : Prop := fnExactServerCellsRow.holds Try.pinned (OpenSpec.ofChange fnExactServerCellsWrong)

/-- 'laws.FnExactCompareRasters': WHATEVER THE INPUT: true; the input reads as it did. -/
def fnExactCompareRastersSpec : ChangeSpec := { name := "fnExactCompareRasters", fn := fun _ => fun
  | [d1, d2] => { results := [.lit (.bool true)], args := [d1, d2] }
  | _ => none }
def fnExactCompareRastersRow : OpenClaim := { program := "ytdbongnhdlbplaa", sum := "d5503e15f00c2dc29408ffc3cfd10bb4dec74e52e4461a8d5b19cf2882adc7d2", func := "loop.example/g00925/laws.FnExactCompareRasters", spec := "fnExactCompareRasters", unfollowed := true, recurses := true, apart := false }
def FnExactCompareRastersSaid : Prop := fnExactCompareRastersRow.holds Try.pinned (OpenSpec.ofChange fnExactCompareRastersSpec)

/-- ITS FALSE NEIGHBOUR: 'it returns false'. Refute it at one input. -/
def fnExactCompareRastersWrong : ChangeSpec := { name := "fnExactCompareRasters", fn := fun _ => fun
  | [d1, d2] => { results := [.lit (.bool false)], args := [d1, d2] }
  | _ => none }
def FnExactCompareRastersWrongFalsely : Prop := fnExactCompareRastersRow.holds Try.pinned (OpenSpec.ofChange fnExactCompareRastersWrong)

/-- 'laws.FnExactAddServer': WHATEVER THE INPUT: true; the input reads as it did. -/
def fnExactAddServerSpec : ChangeSpec := { name := "fnExactAddServer", fn := fun _ => fun
  | [d1, d2, d3, d4] => { results := [.lit (.bool true)], args := [d1, d2, d3, d4] }
  | _ => none }
def fnExactAddServerRow : OpenClaim := { program := "ytdbongnhdlbplaa", sum := "d5503e15f00c2dc29408ffc3cfd10bb4dec74e52e4461a8d5b19cf2882adc7d2", func := "loop.example/g00925/laws.FnExactAddServer", spec := "fnExactAddServer", unfollowed := true, recurses := true, apart := false }
def FnExactAddServerSaid : Prop := fnExactAddServerRow.holds Try.pinned (OpenSpec.ofChange fnExactAddServerSpec)

/-- ITS FALSE NEIGHBOUR: 'it returns false'. Refute it at one input. -/
def fnExactAddServerWrong : ChangeSpec := { name := "fnExactAddServer", fn := fun _ => fun
  | [d1, d2, d3, d4] => { results := [.lit (.bool false)], args := [d1, d2, d3, d4] }
  | _ => none }
def FnExactAddServerWrongFalsely : Prop := fnExactAddServerRow.holds Try.pinned (OpenSpec.ofChange fnExactAddServerWrong)

/-- 'laws.FnExactBestServers': WHATEVER THE INPUT: true; the input reads as it did. -/
def fnExactBestServersSpec : ChangeSpec := { name := "fnExactBestServers", fn := fun _ => fun
  | [d1, d2, d3, d4, d5] => { results := [.lit (.bool true)], args := [d1, d2, d3, d4, d5] }
  | _ => none }
def fnExactBestServersRow : OpenClaim := { program := "ytdbongnhdlbplaa", sum := "d5503e15f00c2dc29408ffc3cfd10bb4dec74e52e4461a8d5b19cf2882adc7d2", func := "loop.example/g00925/laws.FnExactBestServers", spec := "fnExactBestServers", unfollowed := true, recurses := true, apart := false }
def FnExactBestServersSaid : Prop := fnExactBestServersRow.holds Try.pinned (OpenSpec.ofChange fnExactBestServersSpec)

/-- ITS FALSE NEIGHBOUR: 'it returns false'. Refute it at one input. -/
def fnExactBestServersWrong : ChangeSpec := { name := "fnExactBestServers", fn := fun _ => fun
  | [d1, d2, d3, d4, d5] => { results := [.lit (.bool false)], args := [d1, d2, d3, d4, d5] }
  | _ => none }
def FnExactBestServersWrongFalsely : Prop := fnExactBestServersRow.holds Try.pinned (OpenSpec.ofChange fnExactBestServersWrong)

/- THE SECOND FORM. 'bulk': how many values and letters a reading holds, each counted each time it is reached (what is shared counts as often as it is met; a slice's spare places count too). A statement '..UptoSaid' is the law's where the arguments, and the package variables that the reading takes, are together of bulk at most 1048576: NARROWER than '..Said'. Prove '..Said' where nothing that the law and all that it calls make is longer than what came in: it says more and counts as full. Else prove '..UptoSaid'. A law counts once. -/
mutual
def uptoBulk {H : Type} : DataW H → Nat
  | .lit (.string bytes) => bytes.length + 1
  | .lit _ => 1
  | .nil => 1
  | .ptr d => uptoBulk d + 1
  | .slice elems spare => uptoBulkAll elems + uptoBulkAll spare + 1
  | .agg parts => uptoBulkAll parts + 1
  | .iface _ d => uptoBulk d + 1
  | .map entries => uptoBulkEntries entries + 1
  | .held _ => 1
def uptoBulkAll {H : Type} : List (DataW H) → Nat
  | [] => 0
  | d :: r => uptoBulk d + uptoBulkAll r
def uptoBulkEntries {H : Type} : List (Lit × DataW H) → Nat
  | [] => 0
  | x :: r => uptoBulkEntry x + uptoBulkEntries r
def uptoBulkEntry {H : Type} : Lit × DataW H → Nat
  | (.string bytes, d) => bytes.length + uptoBulk d + 1
  | (_, d) => uptoBulk d + 1
 end
def uptoSmall : (H : Type) → List (DataW H) → Bool := fun _ ds => decide (uptoBulkAll ds ≤ 1048576)
def OpenSpec.upto (s : _root_.Go.ChangeSpec) : _root_.Go.OpenSpec := { _root_.Go.OpenSpec.ofChange s with cond := some uptoSmall }

/-- 'laws.FnExactCoveredCells', WHERE WHAT IT READS IS OF BULK AT MOST 1048576: true; the input reads as it did. -/
def fnExactCoveredCellsUptoRow : OpenClaim := { program := "ytdbongnhdlbplaa", sum := "d5503e15f00c2dc29408ffc3cfd10bb4dec74e52e4461a8d5b19cf2882adc7d2", func := "loop.example/g00925/laws.FnExactCoveredCells", spec := "fnExactCoveredCells", unfollowed := true, recurses := true, apart := false, narrowed := true }
def FnExactCoveredCellsUptoSaid : Prop := fnExactCoveredCellsUptoRow.holds Try.pinned (OpenSpec.upto fnExactCoveredCellsSpec)

/-- 'laws.FnExactAreaCovered', WHERE WHAT IT READS IS OF BULK AT MOST 1048576: true; the input reads as it did. -/
def fnExactAreaCoveredUptoRow : OpenClaim := { program := "ytdbongnhdlbplaa", sum := "d5503e15f00c2dc29408ffc3cfd10bb4dec74e52e4461a8d5b19cf2882adc7d2", func := "loop.example/g00925/laws.FnExactAreaCovered", spec := "fnExactAreaCovered", unfollowed := true, recurses := true, apart := false, narrowed := true }
def FnExactAreaCoveredUptoSaid : Prop := fnExactAreaCoveredUptoRow.holds Try.pinned (OpenSpec.upto fnExactAreaCoveredSpec)

/-- 'laws.FnExactCoveredShare', WHERE WHAT IT READS IS OF BULK AT MOST 1048576: true; the input reads as it did. -/
def fnExactCoveredShareUptoRow : OpenClaim := { program := "ytdbongnhdlbplaa", sum := "d5503e15f00c2dc29408ffc3cfd10bb4dec74e52e4461a8d5b19cf2882adc7d2", func := "loop.example/g00925/laws.FnExactCoveredShare", spec := "fnExactCoveredShare", unfollowed := true, recurses := true, apart := false, narrowed := true }
def FnExactCoveredShareUptoSaid : Prop := fnExactCoveredShareUptoRow.holds Try.pinned (OpenSpec.upto fnExactCoveredShareSpec)

/-- 'laws.FnExactCoveredPeople', WHERE WHAT IT READS IS OF BULK AT MOST 1048576: true; the input reads as it did. -/
def fnExactCoveredPeopleUptoRow : OpenClaim := { program := "ytdbongnhdlbplaa", sum := "d5503e15f00c2dc29408ffc3cfd10bb4dec74e52e4461a8d5b19cf2882adc7d2", func := "loop.example/g00925/laws.FnExactCoveredPeople", spec := "fnExactCoveredPeople", unfollowed := true, recurses := true, apart := false, narrowed := true }
def FnExactCoveredPeopleUptoSaid : Prop := fnExactCoveredPeopleUptoRow.holds Try.pinned (OpenSpec.upto fnExactCoveredPeopleSpec)

/-- 'laws.FnExactWeakCells', WHERE WHAT IT READS IS OF BULK AT MOST 1048576: true; the input reads as it did. -/
def fnExactWeakCellsUptoRow : OpenClaim := { program := "ytdbongnhdlbplaa", sum := "d5503e15f00c2dc29408ffc3cfd10bb4dec74e52e4461a8d5b19cf2882adc7d2", func := "loop.example/g00925/laws.FnExactWeakCells", spec := "fnExactWeakCells", unfollowed := true, recurses := true, apart := false, narrowed := true }
def FnExactWeakCellsUptoSaid : Prop := fnExactWeakCellsUptoRow.holds Try.pinned (OpenSpec.upto fnExactWeakCellsSpec)

/-- 'laws.FnExactHistogramOf', WHERE WHAT IT READS IS OF BULK AT MOST 1048576: true; the input reads as it did. -/
def fnExactHistogramOfUptoRow : OpenClaim := { program := "ytdbongnhdlbplaa", sum := "d5503e15f00c2dc29408ffc3cfd10bb4dec74e52e4461a8d5b19cf2882adc7d2", func := "loop.example/g00925/laws.FnExactHistogramOf", spec := "fnExactHistogramOf", unfollowed := true, recurses := true, apart := false, narrowed := true }
def FnExactHistogramOfUptoSaid : Prop := fnExactHistogramOfUptoRow.holds Try.pinned (OpenSpec.upto fnExactHistogramOfSpec)

/-- 'laws.FnExactMergeRasters', WHERE WHAT IT READS IS OF BULK AT MOST 1048576: true; the input reads as it did. -/
def fnExactMergeRastersUptoRow : OpenClaim := { program := "ytdbongnhdlbplaa", sum := "d5503e15f00c2dc29408ffc3cfd10bb4dec74e52e4461a8d5b19cf2882adc7d2", func := "loop.example/g00925/laws.FnExactMergeRasters", spec := "fnExactMergeRasters", unfollowed := true, recurses := true, apart := false, narrowed := true }
def FnExactMergeRastersUptoSaid : Prop := fnExactMergeRastersUptoRow.holds Try.pinned (OpenSpec.upto fnExactMergeRastersSpec)

/-- 'laws.FnExactServerCells', WHERE WHAT IT READS IS OF BULK AT MOST 1048576: true; the input reads as it did. -/
def fnExactServerCellsUptoRow : OpenClaim := { program := "ytdbongnhdlbplaa", sum := "d5503e15f00c2dc29408ffc3cfd10bb4dec74e52e4461a8d5b19cf2882adc7d2", func := "loop.example/g00925/laws.FnExactServerCells", spec := "fnExactServerCells", unfollowed := true, recurses := true, apart := false, narrowed := true }
def FnExactServerCellsUptoSaid : Prop := fnExactServerCellsUptoRow.holds Try.pinned (OpenSpec.upto fnExactServerCellsSpec)

/-- 'laws.FnExactCompareRasters', WHERE WHAT IT READS IS OF BULK AT MOST 1048576: true; the input reads as it did. -/
def fnExactCompareRastersUptoRow : OpenClaim := { program := "ytdbongnhdlbplaa", sum := "d5503e15f00c2dc29408ffc3cfd10bb4dec74e52e4461a8d5b19cf2882adc7d2", func := "loop.example/g00925/laws.FnExactCompareRasters", spec := "fnExactCompareRasters", unfollowed := true, recurses := true, apart := false, narrowed := true }
def FnExactCompareRastersUptoSaid : Prop := fnExactCompareRastersUptoRow.holds Try.pinned (OpenSpec.upto fnExactCompareRastersSpec)

/-- 'laws.FnExactAddServer', WHERE WHAT IT READS IS OF BULK AT MOST 1048576: true; the input reads as it did. -/
def fnExactAddServerUptoRow : OpenClaim := { program := "ytdbongnhdlbplaa", sum := "d5503e15f00c2dc29408ffc3cfd10bb4dec74e52e4461a8d5b19cf2882adc7d2", func := "loop.example/g00925/laws.FnExactAddServer", spec := "fnExactAddServer", unfollowed := true, recurses := true, apart := false, narrowed := true }
def FnExactAddServerUptoSaid : Prop := fnExactAddServerUptoRow.holds Try.pinned (OpenSpec.upto fnExactAddServerSpec)

/-- 'laws.FnExactBestServers', WHERE WHAT IT READS IS OF BULK AT MOST 1048576: true; the input reads as it did. -/
def fnExactBestServersUptoRow : OpenClaim := { program := "ytdbongnhdlbplaa", sum := "d5503e15f00c2dc29408ffc3cfd10bb4dec74e52e4461a8d5b19cf2882adc7d2", func := "loop.example/g00925/laws.FnExactBestServers", spec := "fnExactBestServers", unfollowed := true, recurses := true, apart := false, narrowed := true }
def FnExactBestServersUptoSaid : Prop := fnExactBestServersUptoRow.holds Try.pinned (OpenSpec.upto fnExactBestServersSpec)

end Rows
end Go.Proofs.Ytdbongnhdlbplaa
