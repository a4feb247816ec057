/-
  OWN WORK: the library's sort, and taking a stretch out of a slice, as contracts of calls that write what they are handed.
-/
import Derived.Test.YtocbojbgadcpcaaShelf
import Derived.Test.YtocbojbgadcpcaaTi
import Derived.Test.YtocbojbgadcpcaaLay
namespace Go.Proofs.Ytocbojbgadcpcaa
open Go Go.Own Go.Proofs
set_option maxHeartbeats 4000000
set_option maxRecDepth 20000
def sortI (xs : List Int) : List Int := xs.mergeSort fun x y => decide (x ≤ y)
theorem sortI_length (xs : List Int) : (sortI xs).length = xs.length := List.length_mergeSort _
theorem sortI_perm (xs : List Int) : (sortI xs).Perm xs := List.mergeSort_perm _ _
theorem sortI_mem {xs : List Int} {x : Int} : x ∈ sortI xs ↔ x ∈ xs := (sortI_perm xs).mem_iff
theorem denx_sortI (xs : List Int) (hx : xs.length ≤ 1000000000000) : DenX Try.prog 32 [xints xs] [xints (sortI xs)] (.tup []) :=
  denx_sort ⟨_, Try.func32, by kernel_rfl, by kernel_rfl⟩ (fun blk off cap zs w => AnyG.slices_Sort_int Try.sort64 blk off cap zs w) (fun p c w => AnyG.slices_Sort_int_none Try.sort64 p c w) xs (by omega)
theorem denx_deleteI (xs : List Int) (i j : Nat) (hij : i < j) (hj : j ≤ xs.length) : DenX Try.prog 28 [xints xs, xi i, xi j] [.v (.lst [] xs.length), xi i, xi j] (xints (xs.take i ++ xs.drop j)) :=
  denx_delete ⟨_, Try.func28, by kernel_rfl, by kernel_rfl⟩ (fun blk off cap i j zs w => AnyG.slices_Delete_int Try.del64 blk off cap i j zs w) xs i j hij hj
theorem compact_le (zs : List Int) : (Lib.compact zs).length ≤ zs.length := by
  have h : ∀ m, (Lib.compactUpTo zs.toArray m).length ≤ m := fun m => by
    simp only [Lib.compactUpTo, List.length_map]
    exact Nat.le_trans (List.length_filter_le _ _) (by simp)
  exact h zs.length
end Go.Proofs.Ytocbojbgadcpcaa
