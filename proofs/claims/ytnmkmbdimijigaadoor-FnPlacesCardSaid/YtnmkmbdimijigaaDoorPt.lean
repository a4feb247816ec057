/-
  OWN WORK: rows of points, as rows of twice as many numbers: copies, comparisons, marks.
-/
import Derived.Test.YtnmkmbdimijigaaDoorLibA
import Derived.Test.YtnmkmbdimijigaaDoorMk
namespace Go.Proofs.YtnmkmbdimijigaaDoor
open Go Go.Own Go.Proofs
set_option maxHeartbeats 4000000
set_option maxRecDepth 20000
set_option linter.unusedSimpArgs false
abbrev pointsV (L : List Int) (n : Nat) : AVal := .lst (mapC AVal.i L) n
abbrev pointV (x y : Int) : AVal := .agg [.i x, .i y]
theorem pt_rd {L : List Int} {k : Nat} (h : k * 2 + 2 ≤ L.length) : ((mapC AVal.i L).drop (k * 2)).take 2 = [.i (L.getD (k * 2) 0), .i (L.getD (k * 2 + 1) 0)] := by
  have h1 : k * 2 < L.length := by omega
  have h2 : k * 2 + 1 < L.length := by omega
  rw [mapC_drop, mapC_take]
  have e : (L.drop (k * 2)).take 2 = [L[k * 2], L[k * 2 + 1]] := by
    rw [List.drop_eq_getElem_cons h1, List.drop_eq_getElem_cons h2]
    rfl
  rw [e]
  simp [mapC, List.getD, h1, h2]
theorem pt_tree (L : List Int) (n : Nat) : (pointsV L n).tree = true := by simp only [AVal.tree, treeL_i]
theorem pt_ld {L : List Int} {k : Nat} (h : k * 2 + 2 ≤ L.length) : mapC AVal.i (List.take 2 (List.drop (k * 2) L)) = [.i (L.getD (k * 2) 0), .i (L.getD (k * 2 + 1) 0)] := by
  rw [← mapC_take, ← mapC_drop]
  exact pt_rd h
theorem pt_flat (n : Nat) : (List.replicate n [AVal.i 0, AVal.i 0]).flatten = mapC AVal.i (List.replicate (n * 2) 0) := by
  induction n with
  | zero => rfl
  | succ n ih =>
    rw [List.replicate_succ, List.flatten_cons, ih, show (n + 1) * 2 = n * 2 + 1 + 1 by omega, List.replicate_succ, List.replicate_succ]
    rfl
theorem pt_fill {L : List Int} {n k : Nat} (hL : L.length = n * 2) (h : k < n) : lay (mapC AVal.i (L.take (k * 2) ++ List.replicate ((n - k) * 2) 0)) (k * 2) [.i (L.getD (k * 2) 0), .i (L.getD (k * 2 + 1) 0)] = mapC AVal.i (L.take ((k + 1) * 2) ++ List.replicate ((n - (k + 1)) * 2) 0) := by
  have h1 : k * 2 < L.length := by omega
  have h2 : k * 2 + 1 < L.length := by omega
  have e1 : L.take ((k + 1) * 2) = L.take (k * 2) ++ [L[k * 2], L[k * 2 + 1]] := by
    rw [show (k + 1) * 2 = k * 2 + 1 + 1 by omega, List.take_succ_eq_append_getElem h2, List.take_succ_eq_append_getElem h1, List.append_assoc]
    rfl
  have e2 : (n - k) * 2 = (n - (k + 1)) * 2 + 1 + 1 := by omega
  have hl : (L.take (k * 2)).length = k * 2 := by simp; omega
  unfold lay
  rw [mapC_take, mapC_drop, e1, e2, List.replicate_succ, List.replicate_succ]
  have t1 : (L.take (k * 2) ++ 0 :: 0 :: List.replicate ((n - (k + 1)) * 2) 0).take (k * 2) = L.take (k * 2) := by
    rw [List.take_append_of_le_length (by omega), List.take_of_length_le (by omega)]
  have t2 : (L.take (k * 2) ++ 0 :: 0 :: List.replicate ((n - (k + 1)) * 2) 0).drop (k * 2 + 2) = List.replicate ((n - (k + 1)) * 2) 0 := by
    rw [List.drop_append, List.drop_of_length_le (by omega), hl]
    simp
  show mapC AVal.i _ ++ [AVal.i _, AVal.i _] ++ mapC AVal.i (List.drop (k * 2 + 2) _) = _
  rw [t1, t2]
  simp [mapC, List.getD, h1, h2]
end Go.Proofs.YtnmkmbdimijigaaDoor
