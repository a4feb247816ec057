/-
  OWN WORK: square tables of numbers, given by a function: plain.
-/
import Derived.Test.YtkmhoebopfgpdaaFamB
import Derived.Test.YtkmhoebopfgpdaaLibA
namespace Go.Proofs.Ytkmhoebopfgpdaa
open Go Go.Own Go.Proofs
set_option maxHeartbeats 4000000
set_option maxRecDepth 20000
set_option linter.unusedSimpArgs false
def rowI (q : Nat → Int) (n : Nat) : List Int := (List.range n).map q
def matI (q : Nat → Nat → Int) (n : Nat) : List (List Int) := (List.range n).map fun i => rowI (q i) n
theorem rowI_len (q : Nat → Int) (n : Nat) : (rowI q n).length = n := by simp [rowI]
theorem matI_len (q : Nat → Nat → Int) (n : Nat) : (matI q n).length = n := by simp [matI]
theorem rowI_get (q : Nat → Int) (n i : Nat) (h : i < (rowI q n).length) : (rowI q n)[i] = q i := by simp [rowI]
theorem matI_get (q : Nat → Nat → Int) (n i : Nat) (h : i < (matI q n).length) : (matI q n)[i] = rowI (q i) n := by simp [matI]
theorem rowI_congr {q q' : Nat → Int} {n : Nat} (h : ∀ i, i < n → q i = q' i) : rowI q n = rowI q' n := by
  refine List.ext_getElem (by rw [rowI_len, rowI_len]) fun i h1 h2 => ?_
  rw [rowI_get, rowI_get]
  exact h i (by rw [rowI_len] at h1; exact h1)
theorem matI_congr {q q' : Nat → Nat → Int} {n : Nat} (h : ∀ i k, i < n → k < n → q i k = q' i k) : matI q n = matI q' n := by
  refine List.ext_getElem (by rw [matI_len, matI_len]) fun i h1 h2 => ?_
  rw [matI_get, matI_get]
  rw [matI_len] at h1
  exact rowI_congr fun k hk => h i k h1 hk
theorem rowI_set (q : Nat → Int) (n k : Nat) (v : Int) : (rowI q n).set k v = rowI (fun j => if j = k then v else q j) n := by
  refine List.ext_getElem (by rw [List.length_set, rowI_len, rowI_len]) fun i h1 h2 => ?_
  rw [List.getElem_set]
  simp only [rowI_get]
  by_cases e : k = i
  · subst e; simp
  · rw [if_neg e, if_neg (fun h => e h.symm)]
/-- a number at one place of a table -/
def put2 (q : Nat → Nat → Int) (i k : Nat) (v : Int) : Nat → Nat → Int := fun a b => if a = i ∧ b = k then v else q a b
theorem put2_row (q : Nat → Nat → Int) (i k : Nat) (v : Int) (n : Nat) : rowI (put2 q i k v i) n = (rowI (q i) n).set k v := by
  rw [rowI_set]
  exact rowI_congr fun j _ => by
    unfold put2
    by_cases e : j = k
    · rw [if_pos ⟨rfl, e⟩, if_pos e]
    · rw [if_neg (fun h => e h.2), if_neg e]
theorem put2_other (q : Nat → Nat → Int) {i k a : Nat} (v : Int) (n : Nat) (h : a ≠ i) : rowI (put2 q i k v a) n = rowI (q a) n :=
  rowI_congr fun _ _ => if_neg fun e => h e.1
theorem famC_matI {ν : Nat} {gs : Nat → Nat} (q q' : Nat → Nat → Int) (n : Nat) : famC ν gs (matI q n) = famC ν gs (matI q' n) := by
  apply List.ext_getElem?
  intro i
  by_cases hi : i < n
  · rw [get_famC (show i < (matI q n).length by rw [matI_len]; exact hi), get_famC (show i < (matI q' n).length by rw [matI_len]; exact hi), matI_get q n i (by rw [matI_len]; exact hi), matI_get q' n i (by rw [matI_len]; exact hi), rowI_len, rowI_len]
  · rw [List.getElem?_eq_none (by rw [len_famC, matI_len]; omega), List.getElem?_eq_none (by rw [len_famC, matI_len]; omega)]
theorem matI_at {ν : Nat} {gs : Nat → Nat} {q : Nat → Nat → Int} {n i : Nat} (hi : i < n) : lookupH (famHf AVal.i ν gs (matI q n)) (ch ν i) = some ⟨gs i, 1, mapC AVal.i (rowI (q i) n)⟩ := by
  rw [famH_at (show i < (matI q n).length by rw [matI_len]; exact hi), matI_get q n i (by rw [matI_len]; exact hi)]
theorem matI_cell {ν : Nat} {gs : Nat → Nat} {q : Nat → Nat → Int} {n i : Nat} (hi : i < n) : (famC ν gs (matI q n))[i]? = some (.own (ch ν i) (gs i) 0 n) := by
  rw [get_famC (show i < (matI q n).length by rw [matI_len]; exact hi), matI_get q n i (by rw [matI_len]; exact hi), rowI_len]
theorem matI_zero (n : Nat) : List.replicate n (List.replicate n (0 : Int)) = matI (fun _ _ => 0) n := by
  refine List.ext_getElem (by rw [matI_len, List.length_replicate]) fun i h1 h2 => ?_
  rw [matI_get, List.getElem_replicate]
  refine List.ext_getElem (by rw [rowI_len, List.length_replicate]) fun k h3 h4 => ?_
  rw [rowI_get, List.getElem_replicate]
end Go.Proofs.Ytkmhoebopfgpdaa
