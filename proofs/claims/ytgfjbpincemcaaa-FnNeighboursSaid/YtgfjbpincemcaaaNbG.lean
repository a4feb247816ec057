/-
  OWN WORK: lists of a table.
-/
import Derived.Test.YtgfjbpincemcaaaNbF
namespace Go.Proofs.Ytgfjbpincemcaaa
open Go Go.Own Go.Proofs
set_option maxHeartbeats 4000000
set_option maxRecDepth 20000
set_option linter.unusedSimpArgs false
theorem tree_bools (q : Int → Int → Prop) (n : Nat) : (boolsV q n).tree = true := by
  simp only [AVal.tree]
  exact treeL_mapC _ _ fun l => by simp only [lstC, AVal.tree]; exact treeL_mapC _ _ fun _ => rfl
end Go.Proofs.Ytgfjbpincemcaaa
