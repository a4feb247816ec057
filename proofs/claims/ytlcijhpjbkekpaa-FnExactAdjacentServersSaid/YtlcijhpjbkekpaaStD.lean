/-
  OWN WORK: servers of adjacent cells: plain.
-/
import Derived.Test.YtlcijhpjbkekpaaRaH
import Derived.Test.YtlcijhpjbkekpaaSrt
namespace Go.Proofs.Ytlcijhpjbkekpaa
open Go Go.Own Go.Proofs
set_option maxHeartbeats 4000000
set_option maxRecDepth 20000
set_option linter.unusedSimpArgs false
/-- rows of numbers below n for which something is so -/
noncomputable def rowsQ (q : Int → Int → Prop) (n : Nat) : List (List Int) := (List.range n).map fun (i : Nat) => plK (q i) n
theorem rowsQ_length (q : Int → Int → Prop) (n : Nat) : (rowsQ q n).length = n := by simp [rowsQ]
theorem rowsQ_get (q : Int → Int → Prop) {n i : Nat} (h : i < n) : (rowsQ q n)[i]'(by rw [rowsQ_length]; exact h) = plK (q i) n := by simp [rowsQ]
theorem rowsQ_congr {q q' : Int → Int → Prop} {n : Nat} (h : ∀ i k : Nat, i < n → k < n → (q i k ↔ q' i k)) : rowsQ q n = rowsQ q' n := by
  unfold rowsQ
  refine List.map_congr_left fun i hi => ?_
  exact plK_congr fun k hk => h i k (List.mem_range.1 hi) hk
/-- the t-th pair of cells that is looked at has the servers x and y -/
def adjS (sv : List Int) (w : Nat) (t : Nat) (x y : Int) : Prop :=
  ∃ k : Nat, ((t % 2 = 0 ∧ k = t / 2 + 1 ∧ ¬ t / 2 % w = w - 1) ∨ (t % 2 = 1 ∧ k = t / 2 + w)) ∧ k < sv.length ∧ x = sv.getD (t / 2) (-1) ∧ y = sv.getD k (-1) ∧ 0 ≤ x ∧ 0 ≤ y ∧ x ≠ y
def adjT (sv : List Int) (w : Nat) (m : Nat) (x y : Int) : Prop := ∃ t : Nat, t < m ∧ (adjS sv w t x y ∨ adjS sv w t y x)
theorem adjT_zero {sv : List Int} {w : Nat} {x y : Int} : adjT sv w 0 x y ↔ False := ⟨fun ⟨_, h, _⟩ => by omega, False.elim⟩
theorem adjT_succ {sv : List Int} {w m : Nat} {x y : Int} : adjT sv w (m + 1) x y ↔ (adjT sv w m x y ∨ adjS sv w m x y ∨ adjS sv w m y x) := by
  constructor
  · rintro ⟨t, h1, h2⟩
    by_cases e : t = m
    · subst e; exact .inr h2
    · exact .inl ⟨t, by omega, h2⟩
  · rintro (⟨t, h1, h2⟩ | h)
    · exact ⟨t, by omega, h2⟩
    · exact ⟨m, by omega, h⟩
section
variable {sv : List Int} {w i k : Nat}
theorem adjS_right (h : i + 1 < sv.length) (hi : i < sv.length) (hw : ¬ i % w = w - 1) (x y : Int) : adjS sv w (2 * i) x y ↔ (x = sv[i] ∧ y = sv[i + 1] ∧ 0 ≤ sv[i] ∧ 0 ≤ sv[i + 1] ∧ sv[i] ≠ sv[i + 1]) := by
  have e1 : 2 * i % 2 = 0 := by omega
  have e2 : 2 * i / 2 = i := by omega
  unfold adjS
  rw [e1, e2]
  constructor
  · rintro ⟨k, (⟨_, rfl, _⟩ | ⟨h1, _⟩), h2, rfl, rfl, h5, h6, h7⟩
    · simp only [List.getD, List.getElem?_eq_getElem hi, List.getElem?_eq_getElem h, Option.getD_some] at *
      exact ⟨trivial, trivial, h5, h6, h7⟩
    · omega
  · rintro ⟨rfl, rfl, h5, h6, h7⟩
    exact ⟨i + 1, .inl ⟨rfl, rfl, hw⟩, h, by simp [List.getD, hi], by simp [List.getD, h], h5, h6, h7⟩
theorem adjS_edge (h : i % w = w - 1 ∨ ¬ i + 1 < sv.length) (x y : Int) : ¬ adjS sv w (2 * i) x y := by
  have e1 : 2 * i % 2 = 0 := by omega
  have e2 : 2 * i / 2 = i := by omega
  unfold adjS
  rw [e1, e2]
  rintro ⟨k, (⟨_, rfl, h0⟩ | ⟨h1, _⟩), h2, _⟩
  · rcases h with h | h
    · exact h0 h
    · exact h h2
  · omega
theorem adjS_down (h : i + w < sv.length) (hi : i < sv.length) (x y : Int) : adjS sv w (2 * i + 1) x y ↔ (x = sv[i] ∧ y = sv[i + w] ∧ 0 ≤ sv[i] ∧ 0 ≤ sv[i + w] ∧ sv[i] ≠ sv[i + w]) := by
  have e1 : (2 * i + 1) % 2 = 1 := by omega
  have e2 : (2 * i + 1) / 2 = i := by omega
  unfold adjS
  rw [e1, e2]
  constructor
  · rintro ⟨k, (⟨h1, _⟩ | ⟨_, rfl⟩), h2, rfl, rfl, h5, h6, h7⟩
    · omega
    · simp only [List.getD, List.getElem?_eq_getElem hi, List.getElem?_eq_getElem h, Option.getD_some] at *
      exact ⟨trivial, trivial, h5, h6, h7⟩
  · rintro ⟨rfl, rfl, h5, h6, h7⟩
    exact ⟨i + w, .inr ⟨rfl, rfl⟩, h, by simp [List.getD, hi], by simp [List.getD, h], h5, h6, h7⟩
theorem adjS_low (h : ¬ i + w < sv.length) (x y : Int) : ¬ adjS sv w (2 * i + 1) x y := by
  have e1 : (2 * i + 1) % 2 = 1 := by omega
  have e2 : (2 * i + 1) / 2 = i := by omega
  unfold adjS
  rw [e1, e2]
  rintro ⟨k, (⟨h1, _⟩ | ⟨_, rfl⟩), h2, _⟩
  · omega
  · exact h h2
end
/-- a further pair -/
def addP (q : Int → Int → Prop) (a b x y : Int) : Prop := q x y ∨ (x = a ∧ y = b) ∨ (x = b ∧ y = a)
theorem adjT_add {sv : List Int} {w m : Nat} {a b : Int} (h : ∀ x y, adjS sv w m x y ↔ (x = a ∧ y = b)) (x y : Int) : adjT sv w (m + 1) x y ↔ addP (adjT sv w m) a b x y := by
  rw [adjT_succ, h, h]
  unfold addP
  constructor
  · rintro (h | h | h)
    · exact .inl h
    · exact .inr (.inl h)
    · exact .inr (.inr ⟨h.2, h.1⟩)
  · rintro (h | h | h)
    · exact .inl h
    · exact .inr (.inl h)
    · exact .inr (.inr ⟨h.2, h.1⟩)
theorem adjT_same {sv : List Int} {w m : Nat} (h : ∀ x y, ¬ adjS sv w m x y) (x y : Int) : adjT sv w (m + 1) x y ↔ adjT sv w m x y := by
  rw [adjT_succ]
  exact ⟨fun h2 => h2.elim id fun h3 => h3.elim (fun h4 => (h _ _ h4).elim) fun h4 => (h _ _ h4).elim, .inl⟩
noncomputable def adN (sv : List Int) : Nat := (mostOf (-1) sv + 1).toNat
noncomputable def adL (s w h : Int) (sv lv : List Int) : List (List Int) := if bp (OkRas s w h sv lv) then rowsQ (adjT sv w.toNat (2 * sv.length)) (adN sv) else []
noncomputable def adC (s w h : Int) (sv lv : List Int) : Int := if bp (OkRas s w h sv lv) then 0 else 1
theorem ad_yes {s w h : Int} {sv lv : List Int} (h1 : OkRas s w h sv lv) : adL s w h sv lv = rowsQ (adjT sv w.toNat (2 * sv.length)) (adN sv) ∧ adC s w h sv lv = 0 := by
  unfold adL adC
  rw [if_pos (by rw [bp_true]; exact h1), if_pos (by rw [bp_true]; exact h1)]
  exact ⟨rfl, rfl⟩
theorem ad_no {s w h : Int} {sv lv : List Int} (h1 : ¬ OkRas s w h sv lv) : adL s w h sv lv = [] ∧ adC s w h sv lv = 1 := by
  unfold adL adC
  rw [if_neg (by rw [bp_true]; exact h1), if_neg (by rw [bp_true]; exact h1)]
  exact ⟨rfl, rfl⟩
/-! ### sorted and cut down -/
theorem compact_sorted {zs : List Int} (hs : zs.Pairwise (· ≤ ·)) : ∀ m : Nat, m ≤ zs.length → (Lib.compactUpTo zs.toArray m).Pairwise (· < ·) ∧ (∀ y, y ∈ Lib.compactUpTo zs.toArray m ↔ ∃ (j : Nat) (hj : j < zs.length), j < m ∧ zs[j] = y)
  | 0, _ => by simp [Lib.compactUpTo]
  | m + 1, hm => by
    obtain ⟨h1, h2⟩ := compact_sorted hs m (by omega)
    have hm' : m < zs.length := hm
    have hg : zs.toArray[m]! = zs[m] := by simp [hm']
    rw [List.pairwise_iff_getElem] at hs
    rw [Lib.compactUpTo_succ]
    by_cases hk : Lib.keeps zs.toArray m = true
    · rw [if_pos hk, hg]
      refine ⟨?_, fun y => ?_⟩
      · rw [List.pairwise_append]
        refine ⟨h1, by simp, fun a ha b hb => ?_⟩
        simp only [List.mem_singleton] at hb
        subst hb
        obtain ⟨j, hj, hjm, rfl⟩ := (h2 a).1 ha
        have hm0 : ¬ m = 0 := by omega
        have hne : zs[m] ≠ zs[m - 1] := by
          simp only [Lib.keeps, decide_eq_true_eq] at hk
          have := hk.resolve_left hm0
          have e2 : zs.toArray[m - 1]! = zs[m - 1] := by simp [show m - 1 < zs.length by omega]
          rw [hg, e2] at this
          exact this
        have p1 : zs[m - 1] ≤ zs[m] := hs (m - 1) m (by omega) hm' (by omega)
        have p2 : zs[j] ≤ zs[m - 1] := by
          by_cases e : j = m - 1
          · subst e; exact Int.le_refl _
          · exact hs j (m - 1) hj (by omega) (by omega)
        omega
      · rw [List.mem_append, h2, List.mem_singleton]
        constructor
        · rintro (⟨j, hj, hjm, e⟩ | e)
          · exact ⟨j, hj, by omega, e⟩
          · exact ⟨m, hm', by omega, e.symm⟩
        · rintro ⟨j, hj, hjm, e⟩
          by_cases ej : j = m
          · subst ej; exact .inr e.symm
          · exact .inl ⟨j, hj, by omega, e⟩
    · rw [if_neg hk, List.append_nil]
      refine ⟨h1, fun y => ?_⟩
      rw [h2]
      constructor
      · rintro ⟨j, hj, hjm, e⟩
        exact ⟨j, hj, by omega, e⟩
      · rintro ⟨j, hj, hjm, e⟩
        by_cases ej : j = m
        · subst ej
          simp only [Lib.keeps, decide_eq_true_eq, not_or, ne_eq, Decidable.not_not] at hk
          have e2 : zs.toArray[j - 1]! = zs[j - 1] := by simp [show j - 1 < zs.length by omega]
          rw [hg, e2] at hk
          exact ⟨j - 1, by omega, by omega, by rw [← hk.2]; exact e⟩
        · exact ⟨j, hj, by omega, e⟩
theorem sortI_pairwise (L : List Int) : (sortI L).Pairwise (· ≤ ·) := by
  have h1 : (sortI L).Pairwise fun x y => decide (x ≤ y) = true := List.pairwise_mergeSort (by intro a b c h1 h2; simp at *; omega) (by intro a b; simp; omega) _
  exact h1.imp fun h => by simpa using h
theorem compact_plK {L : List Int} {q : Int → Prop} {n : Nat} (h : ∀ y, y ∈ L ↔ ∃ m : Nat, m < n ∧ y = m ∧ q m) : Lib.compact (sortI L) = plK q n := by
  obtain ⟨h1, h2⟩ := compact_sorted (sortI_pairwise L) (sortI L).length (Nat.le_refl _)
  refine sorted_ext h1 (sorted_plK q n) fun x => ?_
  rw [mem_plK, ← h, ← sortI_mem (xs := L)]
  show x ∈ Lib.compactUpTo _ _ ↔ _
  rw [h2]
  constructor
  · rintro ⟨j, hj, _, rfl⟩; exact List.getElem_mem hj
  · intro hx
    obtain ⟨j, hj, e⟩ := List.getElem_of_mem hx
    exact ⟨j, hj, hj, e⟩
end Go.Proofs.Ytlcijhpjbkekpaa
