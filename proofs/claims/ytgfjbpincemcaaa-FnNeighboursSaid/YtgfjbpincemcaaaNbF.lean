/-
  OWN WORK: tables of neighbours; the reference's side.
-/
import Derived.Test.YtgfjbpincemcaaaNbE
namespace Go.Proofs.Ytgfjbpincemcaaa
open Go Go.Own Go.Proofs
set_option maxHeartbeats 4000000
set_option maxRecDepth 20000
set_option linter.unusedSimpArgs false
noncomputable def rowB (p : Int → Prop) (n : Nat) : List Bool := (List.range n).map fun (k : Nat) => bp (p k)
noncomputable def matB (q : Int → Int → Prop) (n : Nat) : List (List Bool) := (List.range n).map fun (i : Nat) => rowB (q i) n
theorem rowB_length (p : Int → Prop) (n : Nat) : (rowB p n).length = n := by simp [rowB]
theorem matB_length (q : Int → Int → Prop) (n : Nat) : (matB q n).length = n := by simp [matB]
theorem rowB_get (p : Int → Prop) (n k : Nat) (h : k < n) : (rowB p n)[k]'(by rw [rowB_length]; exact h) = bp (p k) := by simp [rowB]
theorem matB_get (q : Int → Int → Prop) (n i : Nat) (h : i < n) : (matB q n)[i]'(by rw [matB_length]; exact h) = rowB (q i) n := by simp [matB]
theorem rowB_congr {p p' : Int → Prop} {n : Nat} (h : ∀ k : Nat, k < n → (p k ↔ p' k)) : rowB p n = rowB p' n := by
  unfold rowB
  refine List.map_congr_left fun k hk => ?_
  exact bp_congr (h k (List.mem_range.1 hk))
theorem matB_congr {q q' : Int → Int → Prop} {n : Nat} (h : ∀ i k : Nat, i < n → k < n → (q i k ↔ q' i k)) : matB q n = matB q' n := by
  unfold matB
  refine List.map_congr_left fun i hi => ?_
  exact rowB_congr fun k hk => h i k (List.mem_range.1 hi) hk
theorem rowB_set (p : Int → Prop) (n m : Nat) : (rowB p n).set m true = rowB (fun y => p y ∨ y = m) n := by
  apply List.ext_getElem
  · simp [rowB_length]
  · intro i h1 h2
    have hi : i < n := by rw [rowB_length] at h2; exact h2
    rw [List.getElem_set, rowB_get _ _ _ hi]
    split
    · rename_i e
      subst e
      rw [rowB_get _ _ _ hi]
      symm
      rw [bp_true]
      exact Or.inr rfl
    · rename_i e
      rw [rowB_get _ _ _ hi]
      exact bp_congr ⟨.inl, fun h => h.resolve_right (by omega)⟩
theorem rep_b (n : Nat) (x : Bool) : List.replicate n (AVal.flat (.bool x)) = mapC AVal.b (List.replicate n x) := by simp [mapC]
theorem matB_false (n : Nat) : List.replicate n (List.replicate n false) = matB (fun _ _ => False) n := by
  have e : rowB (fun _ => False) n = List.replicate n false := by
    apply List.ext_getElem
    · simp [rowB_length]
    · intro i h1 h2
      have hi : i < n := by simpa using h2
      rw [rowB_get _ _ _ hi]
      simp [bp_false]
  apply List.ext_getElem
  · simp [matB_length]
  · intro i h1 h2
    have hi : i < n := by rw [matB_length] at h2; exact h2
    rw [matB_get _ _ _ hi, e]
    simp
/-- told by the first rows -/
def told (ls : List (List Int)) (i : Nat) (a b : Int) : Prop := ∃ (x : Nat) (hx : x < ls.length), x < i ∧ ((a = x ∧ b ∈ ls[x]) ∨ (b = x ∧ a ∈ ls[x]))
/-- and by the beginning of a further one -/
def toldJ (ls : List (List Int)) (i : Nat) (row : List Int) (a b : Int) : Prop := told ls i a b ∨ (a = i ∧ b ∈ row) ∨ (b = i ∧ a ∈ row)
theorem told_all {ls : List (List Int)} {a b : Nat} (ha : a < ls.length) (hb : b < ls.length) : told ls ls.length a b ↔ nbr ls a b := by
  rw [nbr_nat ha hb]
  constructor
  · rintro ⟨x, hx, _, h | h⟩
    · have : x = a := by omega
      subst this
      exact .inl h.2
    · have : x = b := by omega
      subst this
      exact .inr h.2
  · rintro (h | h)
    · exact ⟨a, ha, ha, .inl ⟨rfl, h⟩⟩
    · exact ⟨b, hb, hb, .inr ⟨rfl, h⟩⟩
theorem told_succ {ls : List (List Int)} {i : Nat} (hi : i < ls.length) (a b : Int) : told ls (i + 1) a b ↔ toldJ ls i ls[i] a b := by
  constructor
  · rintro ⟨x, hx, h1, h2⟩
    by_cases e : x = i
    · subst e; exact .inr h2
    · exact .inl ⟨x, hx, by omega, h2⟩
  · rintro (⟨x, hx, h1, h2⟩ | h)
    · exact ⟨x, hx, by omega, h2⟩
    · exact ⟨i, hi, by omega, h⟩
theorem told_zero {ls : List (List Int)} (a b : Int) : told ls 0 a b ↔ False := ⟨fun ⟨_, _, h, _⟩ => by omega, False.elim⟩
theorem toldJ_nil {ls : List (List Int)} {i : Nat} (a b : Int) : toldJ ls i [] a b ↔ told ls i a b := by simp [toldJ]
theorem toldJ_snoc {ls : List (List Int)} {i : Nat} {row : List Int} {m : Int} (a b : Int) : toldJ ls i (row ++ [m]) a b ↔ toldJ ls i row a b ∨ (a = i ∧ b = m) ∨ (b = i ∧ a = m) := by
  simp only [toldJ, List.mem_append, List.mem_singleton]
  constructor
  · rintro (h | ⟨h1, h2 | h2⟩ | ⟨h1, h2 | h2⟩) <;> simp [*]
  · rintro ((h | h | h) | h | h) <;> simp [*]
theorem fam_allf {α : Type} {f : α → AVal} {s s' : ASt} {ν G : Nat} {gs : Nat → Nat} {ls : List (List α)} (h : ∀ j (hj : j < ls.length), s.heap (ch ν j) = some ⟨gs j, 1, mapC f ls[j]⟩) : wkH s s' G (famHf f ν gs ls) := by
  rw [wkH_fam]
  intro j hj
  rw [h j hj]
  exact ⟨rfl, rfl, .inl rfl⟩
theorem famC_matB {ν : Nat} {gs : Nat → Nat} (q q' : Int → Int → Prop) (n : Nat) : famC ν gs (matB q n) = famC ν gs (matB q' n) := by
  apply List.ext_getElem?
  intro i
  by_cases hi : i < n
  · rw [get_famC (show i < (matB q n).length by rw [matB_length]; exact hi), get_famC (show i < (matB q' n).length by rw [matB_length]; exact hi), matB_get q n i hi, matB_get q' n i hi, rowB_length, rowB_length]
  · rw [List.getElem?_eq_none (by rw [len_famC, matB_length]; omega), List.getElem?_eq_none (by rw [len_famC, matB_length]; omega)]
theorem mat_at {ν : Nat} {gs : Nat → Nat} {q : Int → Int → Prop} {n i : Nat} (hi : i < n) : lookupH (famHf AVal.b ν gs (matB q n)) (ch ν i) = some ⟨gs i, 1, mapC AVal.b (rowB (q i) n)⟩ := by
  rw [famH_at (show i < (matB q n).length by rw [matB_length]; exact hi), matB_get q n i hi]
theorem mat_get {ν : Nat} {gs : Nat → Nat} {q : Int → Int → Prop} {n i : Nat} (hi : i < n) : (famC ν gs (matB q n))[i]? = some (.own (ch ν i) (gs i) 0 n) := by
  rw [get_famC (show i < (matB q n).length by rw [matB_length]; exact hi), matB_get q n i hi, rowB_length]
noncomputable abbrev boolsV (q : Int → Int → Prop) (n : Nat) : AVal := .lst (mapC (lstC AVal.b) (matB q n)) n
end Go.Proofs.Ytgfjbpincemcaaa
