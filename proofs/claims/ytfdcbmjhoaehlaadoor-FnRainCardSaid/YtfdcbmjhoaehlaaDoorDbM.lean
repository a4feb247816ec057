/-
  OWN WORK: hops and outages that the laws draw.
-/
import Derived.Test.YtfdcbmjhoaehlaaDoorDbF
namespace Go.Proofs.YtfdcbmjhoaehlaaDoor
open Go Go.Own Go.Proofs
set_option maxHeartbeats 4000000
set_option maxRecDepth 20000
set_option linter.unusedSimpArgs false
set_option linter.unusedVariables false
theorem frz_intsD {s s' : ASt} {β g : Nat} {xs : List Int} (h1 : s.heap β = some ⟨g, 1, mapC AVal.i xs⟩) (h3 : s'.heap β = none) : WV s s' (.own β g 0 xs.length) (ints xs) :=
  WV_frz h1 rfl h3 (by simp [mapC]) (by rw [List.drop_zero]; exact (List.take_of_length_le (by simp [mapC])).symm) (treeL_i _)
theorem mapC_snocD (L : List Int) (x : Int) : mapC AVal.i L ++ [AVal.i x] = mapC AVal.i (L ++ [x]) := by simp [mapC]
end Go.Proofs.YtfdcbmjhoaehlaaDoor
