/-
  OWN WORK: contracts of the laws' own helpers: sizes, copies, comparisons.
-/
import Derived.Test.YtkmhoebopfgpdaaTi
namespace Go.Proofs.Ytkmhoebopfgpdaa
open Go Go.Own Go.Proofs
set_option maxHeartbeats 1000000
set_option maxRecDepth 20000
set_option linter.unusedSimpArgs false
theorem take_succ_eq {α : Type} {xs ys : List α} {k : Nat} (h : xs.take k = ys.take k) (h1 : k < xs.length) (h2 : k < ys.length) (e : xs[k] = ys[k]) : xs.take (k + 1) = ys.take (k + 1) := by
  rw [List.take_succ_eq_append_getElem h1, List.take_succ_eq_append_getElem h2, h, e]
def tot {α : Type} (g : α → Int) (l : List α) : Int := l.length + (l.map g).sum
theorem sum_nonneg {α : Type} (g : α → Int) (hg : ∀ x, 0 ≤ g x) : ∀ l : List α, 0 ≤ (l.map g).sum
  | [] => by simp
  | x :: l => by have := sum_nonneg g hg l; have := hg x; simp; omega
theorem sum_take {α : Type} (g : α → Int) (l : List α) (k : Nat) (h : k < l.length) : ((l.take (k + 1)).map g).sum = ((l.take k).map g).sum + g l[k] := by
  rw [List.take_succ_eq_append_getElem h, List.map_append, List.sum_append]
  simp only [List.map_cons, List.map_nil, List.sum_cons, List.sum_nil, Int.add_zero]
theorem sum_take_le {α : Type} (g : α → Int) (hg : ∀ x, 0 ≤ g x) (l : List α) (k : Nat) : ((l.take k).map g).sum ≤ (l.map g).sum := by
  have := sum_nonneg g hg (l.drop k)
  have e : (l.map g).sum = ((l.take k).map g).sum + ((l.drop k).map g).sum := by
    rw [← List.sum_append, ← List.map_append, List.take_append_drop]
  omega
end Go.Proofs.Ytkmhoebopfgpdaa
