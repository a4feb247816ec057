/-
  OWN WORK: the library's sort, and taking a stretch out of a slice, as contracts of calls that write what they are handed.
-/
import Derived.Test.YtkmhoebopfgpdaaShelf
import Derived.Test.YtkmhoebopfgpdaaTi
import Derived.Test.YtkmhoebopfgpdaaLay
namespace Go.Proofs.Ytkmhoebopfgpdaa
open Go Go.Own Go.Proofs
set_option maxHeartbeats 4000000
set_option maxRecDepth 20000
def sortI (xs : List Int) : List Int := xs.mergeSort fun x y => decide (x ≤ y)
theorem sortI_length (xs : List Int) : (sortI xs).length = xs.length := List.length_mergeSort _
theorem sortI_perm (xs : List Int) : (sortI xs).Perm xs := List.mergeSort_perm _ _
theorem sortI_mem {xs : List Int} {x : Int} : x ∈ sortI xs ↔ x ∈ xs := (sortI_perm xs).mem_iff
theorem denx_sortI (xs : List Int) (hx : xs.length ≤ 1000000000000) : DenX Try.prog 71 [xints xs] [xints (sortI xs)] (.tup []) :=
  denx_sort ⟨_, Try.func71, by kernel_rfl, by kernel_rfl⟩ (fun blk off cap zs w => AnyG.slices_Sort_int Try.sort64 blk off cap zs w) (fun p c w => AnyG.slices_Sort_int_none Try.sort64 p c w) xs (by omega)
theorem compact_le (zs : List Int) : (Lib.compact zs).length ≤ zs.length := by
  have h : ∀ m, (Lib.compactUpTo zs.toArray m).length ≤ m := fun m => by
    simp only [Lib.compactUpTo, List.length_map]
    exact Nat.le_trans (List.length_filter_le _ _) (by simp)
  exact h zs.length
theorem denx_compactI (xs : List Int) (hx : xs.length ≤ 1000000000000) : DenX Try.prog 53 [xints xs] [.v (.lst [] xs.length)] (xints (Lib.compact xs)) :=
  denx_compact compact_le ⟨_, Try.func53, by kernel_rfl, by kernel_rfl⟩ (fun blk off cap zs w h1 h2 h3 => AnyG.slices_Compact_int Try.comp64 blk off cap zs w h1 h2 h3) (fun p c w => AnyG.slices_Compact_int_empty Try.comp64 p c w) xs (by omega)
/-! ### sorted and cut down -/
theorem compact_sorted {zs : List Int} (hs : zs.Pairwise (· ≤ ·)) : ∀ m : Nat, m ≤ zs.length → (Lib.compactUpTo zs.toArray m).Pairwise (· < ·) ∧ (∀ y, y ∈ Lib.compactUpTo zs.toArray m ↔ ∃ (j : Nat) (hj : j < zs.length), j < m ∧ zs[j] = y)
  | 0, _ => by simp [Lib.compactUpTo]
  | m + 1, hm => by
    obtain ⟨h1, h2⟩ := compact_sorted hs m (by omega)
    have hm' : m < zs.length := hm
    have hg : zs.toArray[m]! = zs[m] := by simp [hm']
    rw [List.pairwise_iff_getElem] at hs
    rw [Lib.compactUpTo_succ]
    by_cases hk : Lib.keeps zs.toArray m = true
    · rw [if_pos hk, hg]
      refine ⟨?_, fun y => ?_⟩
      · rw [List.pairwise_append]
        refine ⟨h1, by simp, fun a ha b hb => ?_⟩
        simp only [List.mem_singleton] at hb
        subst hb
        obtain ⟨j, hj, hjm, rfl⟩ := (h2 a).1 ha
        have hm0 : ¬ m = 0 := by omega
        have hne : zs[m] ≠ zs[m - 1] := by
          simp only [Lib.keeps, decide_eq_true_eq] at hk
          have := hk.resolve_left hm0
          have e2 : zs.toArray[m - 1]! = zs[m - 1] := by simp [show m - 1 < zs.length by omega]
          rw [hg, e2] at this
          exact this
        have p1 : zs[m - 1] ≤ zs[m] := hs (m - 1) m (by omega) hm' (by omega)
        have p2 : zs[j] ≤ zs[m - 1] := by
          by_cases e : j = m - 1
          · subst e; exact Int.le_refl _
          · exact hs j (m - 1) hj (by omega) (by omega)
        omega
      · rw [List.mem_append, h2, List.mem_singleton]
        constructor
        · rintro (⟨j, hj, hjm, e⟩ | e)
          · exact ⟨j, hj, by omega, e⟩
          · exact ⟨m, hm', by omega, e.symm⟩
        · rintro ⟨j, hj, hjm, e⟩
          by_cases ej : j = m
          · subst ej; exact .inr e.symm
          · exact .inl ⟨j, hj, by omega, e⟩
    · rw [if_neg hk, List.append_nil]
      refine ⟨h1, fun y => ?_⟩
      rw [h2]
      constructor
      · rintro ⟨j, hj, hjm, e⟩
        exact ⟨j, hj, by omega, e⟩
      · rintro ⟨j, hj, hjm, e⟩
        by_cases ej : j = m
        · subst ej
          simp only [Lib.keeps, decide_eq_true_eq, not_or, ne_eq, Decidable.not_not] at hk
          have e2 : zs.toArray[j - 1]! = zs[j - 1] := by simp [show j - 1 < zs.length by omega]
          rw [hg, e2] at hk
          exact ⟨j - 1, by omega, by omega, by rw [← hk.2]; exact e⟩
        · exact ⟨j, hj, by omega, e⟩
theorem sortI_pairwise (L : List Int) : (sortI L).Pairwise (· ≤ ·) := by
  have h1 : (sortI L).Pairwise fun x y => decide (x ≤ y) = true := List.pairwise_mergeSort (by intro a b c h1 h2; simp at *; omega) (by intro a b; simp; omega) _
  exact h1.imp fun h => by simpa using h
end Go.Proofs.Ytkmhoebopfgpdaa
