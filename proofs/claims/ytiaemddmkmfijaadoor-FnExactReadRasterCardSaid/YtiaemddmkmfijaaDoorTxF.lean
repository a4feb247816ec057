/-
  OWN WORK: texts that were joined, split again by strings.Split.
-/
import Derived.Test.YtiaemddmkmfijaaDoorTxE
import Derived.Lib.CountLaws
import Derived.Shelf.Strings.Split
namespace Go.Proofs.YtiaemddmkmfijaaDoor
open Go Go.Own Go.Proofs Go.RowKit
open Go.Sort (grow)
set_option maxHeartbeats 4000000
set_option maxRecDepth 20000
set_option linter.unusedSimpArgs false
set_option linter.unusedVariables false
theorem count_join {c : UInt8} : ∀ (xs : List (List UInt8)), xs ≠ [] → (∀ x ∈ xs, c ∉ x) → Lib.count (Lib.join xs [c]) [c] + 1 = xs.length
  | [], h, _ => absurd rfl h
  | [x], _, h => by
    rw [Lib.join_one, Lib.count_miss (index_no (h x (by simp)))]
    rfl
  | x :: y :: r, _, h => by
    have hx := h x (by simp)
    have e : Lib.join (x :: y :: r) [c] = x ++ c :: Lib.join (y :: r) [c] := by
      rw [Lib.join_cons, Lib.join_cons]
      simp [Lib.joinTail]
    have ih := count_join (y :: r) (by simp) fun z hz => h z (List.mem_cons_of_mem _ hz)
    rw [e, Lib.count_hit (by simp) (index_at _ hx), List.length_singleton]
    rw [show x.length + 1 = (x ++ [c]).length by simp, show x ++ c :: Lib.join (y :: r) [c] = (x ++ [c]) ++ Lib.join (y :: r) [c] by simp, List.drop_left]
    simp only [List.length_cons] at ih ⊢
    omega
theorem den_Split (xs : List (List UInt8)) (c : UInt8) (h0 : xs ≠ []) (hc : ∀ x ∈ xs, c ∉ x) (h : (Lib.join xs [c]).length < 4294967281) : Den Tryd.prog 61 [.t (Lib.join xs [c]), .t [c]] (strs xs) := by
  refine ⟨⟨_, Tryd.func61, by kernel_rfl, by kernel_rfl⟩, tree_strs _, fun w vs ok hok hg hr => ?_⟩
  obtain ⟨v, r, rfl, hv, v2, r2, rfl, hv2, rfl⟩ := hr
  obtain rfl := repS hv
  obtain rfl := repS hv2
  obtain ⟨m, hm⟩ := mem_maxLen hg
  refine Calls.mono (Any.strings_Split { Tryd.split with } Tryd.split.i9 (bt (Lib.join xs [c])) (bt [c]) m w (by rw [bt_size]; exact h) hm (by rw [bt_size]; exact Nat.le_refl 1)) ?_
  rintro e w' ⟨rfl, rfl⟩
  have hn := count_join xs h0 hc
  have hcB : Lib.countB (bt (Lib.join xs [c])) (bt [c]) + 1 = xs.length := by
    show Lib.count _ _ + 1 = _
    rw [bt_data, bt_data]
    exact hn
  have hk : Lib.splitK [c] 0 (Lib.countB (bt (Lib.join xs [c])) (bt [c])) (Lib.join xs [c]) = xs := splitK_join xs _ h0 hc (by omega)
  have hl := join_length xs c
  rw [splitB_bt, hk, hcB]
  refine ⟨_, rfl, ⟨_, _, rfl, Nat.le_refl _, by show _ ≤ (9223372036854775807 : Nat); omega, .inr ⟨_, _, rfl, .inr ⟨Nat.le_refl _, by show _ < (w.heap.push _).size; rw [Array.size_push]; exact Nat.lt_succ_self _⟩, repC_strs fun j hj => ?_⟩⟩, ?_⟩
  · show World.cell? _ _ = _
    unfold World.cell?
    simp only [treeEnv]
    rw [show ∀ o, (w.alloc o).heap = w.heap.push o from fun _ => rfl, Array.getElem?_push_size]
    simp only [Nat.zero_add, Option.isSome_none, Bool.false_eq_true, if_false]
    rw [List.getElem?_toArray]
    simp [hj]
  · exact (Below.refl _ w).alloc (Nat.le_refl _) _
end Go.Proofs.YtiaemddmkmfijaaDoor
