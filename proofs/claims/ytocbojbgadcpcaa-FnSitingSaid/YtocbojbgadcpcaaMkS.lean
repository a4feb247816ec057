/-
  OWN WORK: rows of rows that are handed over, marked, and looked at again.
-/
import Derived.Test.YtocbojbgadcpcaaMk
import Derived.Test.YtocbojbgadcpcaaFam
namespace Go.Proofs.Ytocbojbgadcpcaa
open Go Go.Own Go.Proofs
set_option maxHeartbeats 4000000
set_option maxRecDepth 20000
set_option linter.unusedSimpArgs false
theorem lay_fam {ν k g : Nat} {gs : Nat → Nat} {xs : List (List Int)} {z : AVal} (hk : k < xs.length) : lay (famC ν gs (xs.take k) ++ List.replicate (xs.length - k) z) k [.own (ch ν k) g 0 xs[k].length] = famC ν (upd gs k g) (xs.take (k + 1)) ++ List.replicate (xs.length - (k + 1)) z := by
  have hl : (famC ν gs (xs.take k)).length = k := by rw [len_famC]; simp; omega
  have e : xs.length - k = (xs.length - (k + 1)) + 1 := by omega
  have htk : (xs.take k).length = k := by simp; omega
  have hs := famC_snoc (ν := ν) (gs := gs) (ls := xs.take k) xs[k] g
  rw [htk, ← List.take_succ_eq_append_getElem hk] at hs
  unfold lay
  rw [e, List.replicate_succ, List.take_append_of_le_length (by omega), List.take_of_length_le (by omega), List.drop_append, List.drop_of_length_le (by simp; omega), hl, hs]
  simp
theorem fam_step {s s' : ASt} {ν k g G : Nat} {gs : Nat → Nat} {xs : List (List Int)} (hk : k < xs.length) (hold : ∀ j (hj : j < k), s.heap (ch ν j) = some ⟨gs j, 1, mapC AVal.i (xs[j]'(by omega))⟩) (hnew : s.heap (ch ν k) = some ⟨g, 1, mapC AVal.i xs[k]⟩) :
    wkH s s' G (famH ν (upd gs k g) (xs.take (k + 1))) := by
  rw [wkH_fam]
  intro j hj
  have hj' : j < k + 1 := by simp at hj; omega
  by_cases e : j = k
  · subst e
    rw [hnew]
    exact ⟨by simp [upd], rfl, .inl (by simp)⟩
  · rw [hold j (by omega)]
    exact ⟨by simp [upd, e], rfl, .inl (by simp)⟩
def tot0 (xs : List (List Int)) : Int := (xs.map (fun x => (x.length : Int))).sum
theorem tot0_nonneg (xs : List (List Int)) : 0 ≤ tot0 xs := sum_nonneg _ (fun _ => by omega) xs
theorem tot0_snoc (xs : List (List Int)) (x : List Int) : tot0 (xs ++ [x]) = tot0 xs + x.length := by simp [tot0]
theorem tot0_take (xs : List (List Int)) (k : Nat) : tot0 (xs.take k) ≤ tot0 xs := sum_take_le _ (fun _ => by omega) xs k
theorem tot_nonneg (xs : List (List Int)) : 0 ≤ tot (fun x => (x.length : Int)) xs := by
  have h0 := tot0_nonneg xs
  have h1 : tot (fun x => (x.length : Int)) xs = xs.length + tot0 xs := rfl
  omega
structure RowsB (xs : List (List Int)) : Prop where
  len : xs.length ≤ 1000000000000
  row : ∀ x ∈ xs, x.length ≤ 1000000000000
  all : tot0 xs ≤ 1000000000000
theorem row_le {xs : List (List Int)} {x : List Int} (h : x ∈ xs) : (x.length : Int) ≤ tot0 xs := by
  unfold tot0
  induction xs with
  | nil => simp at h
  | cons y l ih =>
    have hn := tot0_nonneg l
    unfold tot0 at hn
    rcases List.mem_cons.1 h with e | e
    · subst e; simp; omega
    · have := ih e
      simp
      omega
theorem rowsB_of {xs : List (List Int)} (h : tot (fun x => (x.length : Int)) xs ≤ 1000000000000) : RowsB xs := by
  have h0 := tot0_nonneg xs
  have h1 : tot (fun x => (x.length : Int)) xs = xs.length + tot0 xs := rfl
  exact ⟨by omega, fun x hx => by have := row_le hx; omega, by omega⟩
/-- the first j rows marked -/
def mkJ (k : Int) (xs : List (List Int)) : Nat → List (List Int)
  | 0 => xs
  | j + 1 => (mkJ k xs j).set j (marks (k + tot0 (xs.take j)) (xs.getD j []).length)
def markss (k : Int) (xs : List (List Int)) : List (List Int) := mkJ k xs xs.length
theorem mkJ_length (k : Int) (xs : List (List Int)) : ∀ j, (mkJ k xs j).length = xs.length
  | 0 => rfl
  | j + 1 => by simp [mkJ, mkJ_length k xs j]
theorem mkJ_get (k : Int) (xs : List (List Int)) : ∀ (j i : Nat) (h : i < xs.length), (mkJ k xs j)[i]'(by rw [mkJ_length]; exact h) = if i < j then marks (k + tot0 (xs.take i)) xs[i].length else xs[i]
  | 0, i, h => by simp [mkJ]
  | j + 1, i, h => by
    have ih := mkJ_get k xs j i h
    simp only [mkJ, List.getElem_set]
    by_cases e : j = i
    · subst e
      rw [if_pos rfl, if_pos (by omega)]
      simp [List.getD, h]
    · rw [if_neg e, ih]
      by_cases c : i < j
      · rw [if_pos c, if_pos (by omega)]
      · rw [if_neg c, if_neg (by omega)]
theorem markss_length (k : Int) (xs : List (List Int)) : (markss k xs).length = xs.length := mkJ_length k xs _
theorem markss_get (k : Int) (xs : List (List Int)) (i : Nat) (h : i < xs.length) : (markss k xs)[i]'(by rw [markss_length]; exact h) = marks (k + tot0 (xs.take i)) xs[i].length := by
  have := mkJ_get k xs xs.length i h
  rw [if_pos h] at this
  exact this
theorem tot0_succ (xs : List (List Int)) (j : Nat) (h : j < xs.length) : tot0 (xs.take (j + 1)) = tot0 (xs.take j) + xs[j].length := by
  rw [List.take_succ_eq_append_getElem h, tot0_snoc]
theorem famC_len {ν : Nat} {gs : Nat → Nat} {a b : List (List Int)} (hl : a.length = b.length) (h : ∀ i (h1 : i < a.length) (h2 : i < b.length), a[i].length = b[i].length) : famC ν gs a = famC ν gs b := by
  apply List.ext_getElem?
  intro i
  by_cases hi : i < a.length
  · rw [get_famC hi, get_famC (show i < b.length by omega), h i hi (by omega)]
  · rw [List.getElem?_eq_none (by rw [len_famC]; omega), List.getElem?_eq_none (by rw [len_famC]; omega)]
theorem famC_mkJ {ν : Nat} {gs : Nat → Nat} (k : Int) (xs : List (List Int)) (j : Nat) : famC ν gs (mkJ k xs j) = famC ν gs xs := by
  refine famC_len (mkJ_length k xs j) fun i h1 h2 => ?_
  rw [mkJ_get k xs j i h2]
  split
  · rw [marks_length]
  · rfl
theorem fam_all {s s' : ASt} {ν G : Nat} {gs : Nat → Nat} {ls : List (List Int)} (h : ∀ j (hj : j < ls.length), s.heap (ch ν j) = some ⟨gs j, 1, mapC AVal.i ls[j]⟩) : wkH s s' G (famH ν gs ls) := by
  rw [wkH_fam]
  intro j hj
  rw [h j hj]
  exact ⟨rfl, rfl, .inl rfl⟩
end Go.Proofs.Ytocbojbgadcpcaa
