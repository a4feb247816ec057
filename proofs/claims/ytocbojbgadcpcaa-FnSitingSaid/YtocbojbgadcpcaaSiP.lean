/-
  OWN WORK: the candidate with the most new places for its cost, until everything is covered: the walks.
-/
import Derived.Test.YtocbojbgadcpcaaSiK
import Derived.Test.YtocbojbgadcpcaaSiM
import Derived.Test.YtocbojbgadcpcaaSiO
namespace Go.Proofs.Ytocbojbgadcpcaa
open Go Go.Own Go.Proofs
set_option maxHeartbeats 4000000
set_option maxRecDepth 20000
set_option linter.unusedSimpArgs false
def evK (k : Nat) : List Int := (List.range k).map fun (n : Nat) => (n : Int)
theorem evK_length (k : Nat) : (evK k).length = k := by simp [evK]
theorem evK_snoc (k : Nat) : evK k ++ [(k : Int)] = evK (k + 1) := by simp [evK, List.range_succ]
theorem evK_idx (cv : List (List Int)) : Idx cv (evK cv.length) := fun i hi => ⟨i, by simp [evK], by simpa [evK] using hi⟩
theorem can_iff {ws : List Int} {cv : List (List Int)} : Can ws cv ↔ AllC ws cv (evK cv.length) := by
  unfold Can AllC
  refine forall_congr' fun y => forall_congr' fun _ => ⟨fun ⟨c, h1, h2⟩ => ⟨c, List.mem_map.2 ⟨c, List.mem_range.2 h1, rfl⟩, by simpa using h2⟩, fun ⟨c, h1, h2⟩ => ?_⟩
  obtain ⟨i, hi, rfl⟩ := List.getElem_of_mem h1
  exact ⟨i, by simpa [evK] using hi, by simpa [evK] using h2⟩
end Go.Proofs.Ytocbojbgadcpcaa
