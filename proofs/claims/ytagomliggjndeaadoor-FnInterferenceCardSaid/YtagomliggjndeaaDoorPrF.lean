/-
  OWN WORK: the clique with the most items.
-/
import Derived.Test.YtagomliggjndeaaDoorPrE
namespace Go.Proofs.YtagomliggjndeaaDoor
open Go Go.Own Go.Proofs
set_option maxHeartbeats 4000000
set_option maxRecDepth 20000
set_option linter.unusedSimpArgs false
/-- of all cliques of items that lie so far apart, one with the most items -/
structure MaxC (A : List (List Int)) (d : Int) (r : List Int) : Prop where
  clq : Clq A d r
  most : ∀ K, Clq A d K → K.length ≤ r.length
theorem pow6 {n : Nat} (h : n ≤ 6) : 2 ^ n ≤ 64 := Nat.pow_le_pow_right (by omega) h
end Go.Proofs.YtagomliggjndeaaDoor
