/-
  OWN WORK: the library's sort, and taking a stretch out of a slice, as contracts of calls that write what they are handed.
-/
import Derived.Test.YtnnoknjcnehbeaaShelf
import Derived.Test.YtnnoknjcnehbeaaTi
import Derived.Test.YtnnoknjcnehbeaaLay
namespace Go.Proofs.Ytnnoknjcnehbeaa
open Go Go.Own Go.Proofs
set_option maxHeartbeats 4000000
set_option maxRecDepth 20000
def sortI (xs : List Int) : List Int := xs.mergeSort fun x y => decide (x ≤ y)
theorem sortI_length (xs : List Int) : (sortI xs).length = xs.length := List.length_mergeSort _
theorem sortI_perm (xs : List Int) : (sortI xs).Perm xs := List.mergeSort_perm _ _
theorem sortI_mem {xs : List Int} {x : Int} : x ∈ sortI xs ↔ x ∈ xs := (sortI_perm xs).mem_iff
theorem denx_sortI (xs : List Int) (hx : xs.length ≤ 1000000000000) : DenX Try.prog 46 [xints xs] [xints (sortI xs)] (.tup []) :=
  denx_sort ⟨_, Try.func46, by kernel_rfl, by kernel_rfl⟩ (fun blk off cap zs w => AnyG.slices_Sort_int Try.sort64 blk off cap zs w) (fun p c w => AnyG.slices_Sort_int_none Try.sort64 p c w) xs (by omega)
theorem denx_deleteI (xs : List Int) (i j : Nat) (hij : i < j) (hj : j ≤ xs.length) : DenX Try.prog 42 [xints xs, xi i, xi j] [.v (.lst [] xs.length), xi i, xi j] (xints (xs.take i ++ xs.drop j)) :=
  denx_delete ⟨_, Try.func42, by kernel_rfl, by kernel_rfl⟩ (fun blk off cap i j zs w => AnyG.slices_Delete_int Try.del64 blk off cap i j zs w) xs i j hij hj
end Go.Proofs.Ytnnoknjcnehbeaa
