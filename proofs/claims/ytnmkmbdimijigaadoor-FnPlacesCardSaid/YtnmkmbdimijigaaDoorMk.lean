/-
  OWN WORK: copies that are handed over, marks and what they leave.
-/
import Derived.Test.YtnmkmbdimijigaaDoorBase
namespace Go.Proofs.YtnmkmbdimijigaaDoor
open Go Go.Own Go.Proofs
set_option maxHeartbeats 4000000
set_option maxRecDepth 20000
set_option linter.unusedSimpArgs false
def marks (k : Int) (n : Nat) : List Int := (List.range n).map fun (i : Nat) => k + i
theorem marks_length (k : Int) (n : Nat) : (marks k n).length = n := by simp [marks]
theorem marks_take (k : Int) (n : Nat) : (marks k n).take n = marks k n := List.take_of_length_le (by rw [marks_length]; exact Nat.le_refl _)
theorem marks_get (k : Int) (n i : Nat) (h : i < (marks k n).length) : (marks k n)[i] = k + i := by simp [marks]
theorem marks_succ (k : Int) (n : Nat) : marks k (n + 1) = marks k n ++ [k + n] := by simp [marks, List.range_succ]
theorem marks_step (k : Int) (xs : List Int) (j : Nat) (h : j < xs.length) : (marks k j ++ xs.drop j).set j (k + j) = marks k (j + 1) ++ xs.drop (j + 1) := by
  have hl : (marks k j).length = j := marks_length k j
  rw [List.set_append_right _ _ (by omega), hl, Nat.sub_self, marks_succ, List.append_assoc]
  congr 1
  rw [List.drop_eq_getElem_cons h]
  rfl
end Go.Proofs.YtnmkmbdimijigaaDoor
