/-
  OWN WORK: the library's sort, and taking a stretch out of a slice, as contracts of calls that write what they are handed.
-/
import Derived.Test.YtlcijhpjbkekpaaShelf
import Derived.Test.YtlcijhpjbkekpaaTi
import Derived.Test.YtlcijhpjbkekpaaLay
namespace Go.Proofs.Ytlcijhpjbkekpaa
open Go Go.Own Go.Proofs
set_option maxHeartbeats 4000000
set_option maxRecDepth 20000
def sortI (xs : List Int) : List Int := xs.mergeSort fun x y => decide (x ≤ y)
theorem sortI_length (xs : List Int) : (sortI xs).length = xs.length := List.length_mergeSort _
theorem sortI_perm (xs : List Int) : (sortI xs).Perm xs := List.mergeSort_perm _ _
theorem sortI_mem {xs : List Int} {x : Int} : x ∈ sortI xs ↔ x ∈ xs := (sortI_perm xs).mem_iff
theorem denx_sortI (xs : List Int) (hx : xs.length ≤ 1000000000000) : DenX Try.prog 21 [xints xs] [xints (sortI xs)] (.tup []) :=
  denx_sort ⟨_, Try.func21, by kernel_rfl, by kernel_rfl⟩ (fun blk off cap zs w => AnyG.slices_Sort_int Try.sort64 blk off cap zs w) (fun p c w => AnyG.slices_Sort_int_none Try.sort64 p c w) xs (by omega)
theorem compact_le (zs : List Int) : (Lib.compact zs).length ≤ zs.length := by
  have h : ∀ m, (Lib.compactUpTo zs.toArray m).length ≤ m := fun m => by
    simp only [Lib.compactUpTo, List.length_map]
    exact Nat.le_trans (List.length_filter_le _ _) (by simp)
  exact h zs.length
theorem denx_compactI (xs : List Int) (hx : xs.length ≤ 1000000000000) : DenX Try.prog 22 [xints xs] [.v (.lst [] xs.length)] (xints (Lib.compact xs)) :=
  denx_compact compact_le ⟨_, Try.func22, by kernel_rfl, by kernel_rfl⟩ (fun blk off cap zs w h1 h2 h3 => AnyG.slices_Compact_int Try.comp64 blk off cap zs w h1 h2 h3) (fun p c w => AnyG.slices_Compact_int_empty Try.comp64 p c w) xs (by omega)
end Go.Proofs.Ytlcijhpjbkekpaa
