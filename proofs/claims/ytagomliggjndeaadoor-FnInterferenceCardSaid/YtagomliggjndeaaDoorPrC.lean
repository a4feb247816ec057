/-
  OWN WORK: problems of assignment that the laws draw.
-/
import Derived.Test.YtagomliggjndeaaDoorPrB
import Derived.Test.YtagomliggjndeaaDoorFamB
import Derived.Test.YtagomliggjndeaaDoorPrM
namespace Go.Proofs.YtagomliggjndeaaDoor
open Go Go.Own Go.Proofs
set_option maxHeartbeats 4000000
set_option maxRecDepth 20000
set_option linter.unusedSimpArgs false
structure PrD (D A : List (List Int)) : Prop where
  pos : 1 ≤ D.length
  few : D.length ≤ 6
  dom : ∀ d ∈ D, DomOk d
  len : A.length = D.length
  row : ∀ r ∈ A, r.length = D.length ∧ ∀ x ∈ r, 0 ≤ x ∧ x ≤ 4
  diag : ∀ i : Nat, i < D.length → (A.getD i []).getD i 0 = 0
  sym : ∀ i k : Nat, i < D.length → k < D.length → (A.getD i []).getD k 0 = (A.getD k []).getD i 0
theorem fam_allf {α : Type} {f : α → AVal} {s s' : ASt} {ν G : Nat} {gs : Nat → Nat} {ls : List (List α)} (h : ∀ j (hj : j < ls.length), s.heap (ch ν j) = some ⟨gs j, 1, mapC f ls[j]⟩) : wkH s s' G (famHf f ν gs ls) := by
  rw [wkH_fam]
  intro j hj
  rw [h j hj]
  exact ⟨rfl, rfl, .inl rfl⟩
def TabOk (q : Nat → Nat → Int) : Prop := ∀ a b, (0 ≤ q a b ∧ q a b ≤ 3) ∧ q a b = q b a ∧ q a a = 0
theorem tabOk_put {q : Nat → Nat → Int} {i j : Nat} {v : Int} (h : TabOk q) (hij : i ≠ j) (h0 : 0 ≤ v) (h3 : v ≤ 3) : TabOk (put2 (put2 q i j v) j i v) := by
  intro a b
  obtain ⟨h1, h2, h4⟩ := h a b
  unfold put2
  refine ⟨?_, ?_, ?_⟩
  · split
    · exact ⟨h0, h3⟩
    · split
      · exact ⟨h0, h3⟩
      · exact h1
  · by_cases c1 : a = j ∧ b = i
    · rw [if_pos c1]
      split
      · rfl
      · rw [if_pos ⟨c1.2, c1.1⟩]
    · rw [if_neg c1]
      by_cases c2 : a = i ∧ b = j
      · rw [if_pos c2, if_pos ⟨c2.2, c2.1⟩]
      · rw [if_neg c2, if_neg (fun h => c2 ⟨h.2, h.1⟩), if_neg (fun h => c1 ⟨h.2, h.1⟩)]
        exact h2
  · rw [if_neg (fun h => hij (h.2.symm.trans h.1)), if_neg (fun h => hij (h.1.symm.trans h.2))]
    exact h4
theorem matI_getD {q : Nat → Nat → Int} {n a b : Nat} (ha : a < n) (hb : b < n) : ((matI q n).getD a []).getD b 0 = q a b := by
  rw [List.getD_eq_getElem?_getD, List.getD_eq_getElem?_getD, List.getElem?_eq_getElem (show a < (matI q n).length by rw [matI_len]; exact ha), Option.getD_some, matI_get, List.getElem?_eq_getElem (show b < (rowI (q a) n).length by rw [rowI_len]; exact hb), Option.getD_some, rowI_get]
theorem prD_of {D : List (List Int)} {q : Nat → Nat → Int} {n : Nat} (h : D.length = n) (h1 : 1 ≤ n) (h6 : n ≤ 6) (hd : ∀ d ∈ D, DomOk d) (hq : TabOk q) : PrD D (matI q n) := by
  subst h
  refine ⟨h1, h6, hd, matI_len _ _, fun r hr => ?_, fun i hi => ?_, fun i k hi hk => ?_⟩
  · obtain ⟨a, _, rfl⟩ := List.mem_map.1 hr
    refine ⟨rowI_len _ _, fun x hx => ?_⟩
    obtain ⟨b, _, rfl⟩ := List.mem_map.1 hx
    have := (hq a b).1
    omega
  · rw [matI_getD hi hi]; exact (hq i i).2.2
  · rw [matI_getD hi hk, matI_getD hk hi]; exact (hq i k).2.1
abbrev proV (D A : List (List Int)) : AVal := .agg [intss D, intss A]
end Go.Proofs.YtagomliggjndeaaDoor
