/-
  OWN WORK: the library's sort, and taking a stretch out of a slice, as contracts of calls that write what they are handed.
-/
import Derived.Test.YtlpfnnnniifliaaShelf
import Derived.Test.YtlpfnnnniifliaaTi
import Derived.Test.YtlpfnnnniifliaaLay
namespace Go.Proofs.Ytlpfnnnniifliaa
open Go Go.Own Go.Proofs
set_option maxHeartbeats 4000000
set_option maxRecDepth 20000
def sortI (xs : List Int) : List Int := xs.mergeSort fun x y => decide (x ≤ y)
theorem sortI_length (xs : List Int) : (sortI xs).length = xs.length := List.length_mergeSort _
theorem sortI_perm (xs : List Int) : (sortI xs).Perm xs := List.mergeSort_perm _ _
theorem sortI_mem {xs : List Int} {x : Int} : x ∈ sortI xs ↔ x ∈ xs := (sortI_perm xs).mem_iff
theorem denx_sortI (xs : List Int) (hx : xs.length ≤ 1000000000000) : DenX Try.prog 25 [xints xs] [xints (sortI xs)] (.tup []) :=
  denx_sort ⟨_, Try.func25, by kernel_rfl, by kernel_rfl⟩ (fun blk off cap zs w => AnyG.slices_Sort_int Try.sort64 blk off cap zs w) (fun p c w => AnyG.slices_Sort_int_none Try.sort64 p c w) xs (by omega)
end Go.Proofs.Ytlpfnnnniifliaa
