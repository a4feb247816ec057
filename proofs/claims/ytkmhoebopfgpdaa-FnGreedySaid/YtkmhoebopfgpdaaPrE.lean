/-
  OWN WORK: the search for the clique with the most items: the items lie apart, no other clique has more.
-/
import Derived.Test.YtkmhoebopfgpdaaPrD
namespace Go.Proofs.Ytkmhoebopfgpdaa
open Go Go.Own Go.Proofs
set_option maxHeartbeats 4000000
set_option maxRecDepth 20000
set_option linter.unusedSimpArgs false
theorem one_0 : one [] = AVal.tup [] := rfl
/-- how far two items must lie apart -/
def ap (A : List (List Int)) (x y : Int) : Int := (A.getD x.toNat []).getD y.toNat 0
structure Clq (A : List (List Int)) (d : Int) (ch : List Int) : Prop where
  pw : ch.Pairwise fun x y => x < y ∧ d ≤ ap A x y
  rg : ∀ x ∈ ch, 0 ≤ x ∧ x < A.length
theorem clq_nil (A : List (List Int)) (d : Int) : Clq A d [] := ⟨List.Pairwise.nil, by simp⟩
theorem clq_snoc {A : List (List Int)} {d : Int} {ch : List Int} {c : Int} : Clq A d (ch ++ [c]) ↔ Clq A d ch ∧ (0 ≤ c ∧ c < A.length) ∧ ∀ x ∈ ch, x < c ∧ d ≤ ap A x c := by
  constructor
  · rintro ⟨h1, h2⟩
    obtain ⟨a, _, b⟩ := List.pairwise_append.1 h1
    exact ⟨⟨a, fun x hx => h2 x (by simp [hx])⟩, h2 c (by simp), fun x hx => b x hx c (by simp)⟩
  · rintro ⟨⟨h1, h2⟩, h3, h4⟩
    refine ⟨List.pairwise_append.2 ⟨h1, by simp, fun x hx y hy => ?_⟩, fun x hx => ?_⟩
    · simp only [List.mem_singleton] at hy
      subst hy
      exact h4 x hx
    · rcases List.mem_append.1 hx with h | h
      · exact h2 x h
      · simp only [List.mem_singleton] at h
        subst h
        exact h3
theorem clq_pre {A : List (List Int)} {d : Int} {ch K : List Int} (h : Clq A d (ch ++ K)) : Clq A d ch :=
  ⟨(List.pairwise_append.1 h.pw).1, fun x hx => h.rg x (by simp [hx])⟩
/-- the first item that may come next -/
def nxt (ch : List Int) : Nat := match ch.getLast? with
  | some c => c.toNat + 1
  | none => 0
theorem nxt_nil : nxt [] = 0 := rfl
theorem nxt_snoc (ch : List Int) (c : Nat) : nxt (ch ++ [(c : Int)]) = c + 1 := by simp [nxt]
theorem lt_nxt {A : List (List Int)} {d : Int} {ch : List Int} (h : Clq A d ch) : ∀ x ∈ ch, x < nxt ch := by
  intro x hx
  have hne : ch ≠ [] := List.ne_nil_of_mem hx
  obtain ⟨l, c, rfl⟩ : ∃ l c, ch = l ++ [c] := ⟨ch.dropLast, ch.getLast hne, (List.dropLast_concat_getLast hne).symm⟩
  obtain ⟨_, h2, h3⟩ := clq_snoc.1 h
  have e : nxt (l ++ [c]) = c.toNat + 1 := by simp [nxt]
  rw [e]
  rcases List.mem_append.1 hx with h | h
  · have := (h3 x h).1
    omega
  · simp only [List.mem_singleton] at h
    subst h
    omega
theorem nxt_le {A : List (List Int)} {d : Int} {ch : List Int} (h : Clq A d ch) : nxt ch ≤ A.length := by
  unfold nxt
  split
  · rename_i c hc
    have := h.rg c (List.mem_of_getLast? hc)
    omega
  · exact Nat.zero_le _
theorem len_le_nxt {A : List (List Int)} {d : Int} : ∀ {ch : List Int}, Clq A d ch → ch.length ≤ nxt ch := by
  intro ch
  induction hn : ch.length generalizing ch with
  | zero => intro _; exact Nat.zero_le _
  | succ n ih =>
    intro h
    have hne : ch ≠ [] := fun e => by rw [e] at hn; simp at hn
    obtain ⟨l, c, rfl⟩ : ∃ l c, ch = l ++ [c] := ⟨ch.dropLast, ch.getLast hne, (List.dropLast_concat_getLast hne).symm⟩
    obtain ⟨h1, h2, h3⟩ := clq_snoc.1 h
    have e : nxt (l ++ [c]) = c.toNat + 1 := by simp [nxt]
    have hl : l.length = n := by simpa using hn
    have := ih hl h1
    rw [e]
    by_cases e0 : l = []
    · subst e0
      simp only [List.length_nil] at hl
      omega
    · have hne2 : l.getLast? = some (l.getLast e0) := List.getLast?_eq_some_getLast e0
      have e2 : nxt l = (l.getLast e0).toNat + 1 := by simp [nxt, hne2]
      have := h3 _ (List.getLast_mem e0)
      have := h1.rg _ (List.getLast_mem e0)
      omega
/-- a search's state in memory -/
abbrev vT (D A : List (List Int)) (d : Int) (ch : List Int) (b : Int) (best : List Int) : XT := .op [.v (intss D), .v (intss A), xi d, xi b, xints ch, xints best]
abbrev CS := Int × List Int
/-- what a visit does -/
structure Vis (A : List (List Int)) (d : Int) (ch : List Int) (b : Int) (best : List Int) (r : CS) : Prop where
  lo : b - ((2 ^ (A.length - nxt ch) : Nat) : Int) ≤ r.1
  hi : r.1 ≤ b
  clq : Clq A d r.2
  mono : best.length ≤ r.2.length
  most : ∀ K, Clq A d (ch ++ K) → (ch ++ K).length ≤ r.2.length
theorem nxt_at {A : List (List Int)} {d : Int} {ch : List Int} (h : Clq A d ch) (h0 : 0 < ch.length) : ∃ m : Nat, nxt ch = m + 1 ∧ ch[ch.length - 1]'(by omega) = m := by
  have hlt : ch.length - 1 < ch.length := by omega
  have hr := h.rg _ (List.getElem_mem hlt)
  refine ⟨(ch[ch.length - 1]).toNat, ?_, by omega⟩
  unfold nxt
  rw [List.getLast?_eq_getElem?, List.getElem?_eq_getElem hlt]
/-- what holds when all items before 'c' were tried -/
structure VisI (A : List (List Int)) (d : Int) (ch : List Int) (b : Int) (best : List Int) (c : Nat) (r : CS) : Prop where
  lo : b - 1 - ((2 ^ (A.length - nxt ch) : Nat) : Int) + ((2 ^ (A.length - c) : Nat) : Int) ≤ r.1
  hi : r.1 ≤ b - 1
  clq : Clq A d r.2
  mono : best.length ≤ r.2.length
  own : ch.length ≤ r.2.length
  most : ∀ (y : Int) K, y < c → Clq A d (ch ++ y :: K) → (ch ++ y :: K).length ≤ r.2.length
theorem visI_start {A : List (List Int)} {d : Int} {ch : List Int} {b : Int} {best B0 : List Int} (hch : Clq A d ch) (h1 : Clq A d B0) (h2 : best.length ≤ B0.length) (h3 : ch.length ≤ B0.length) : VisI A d ch b best (nxt ch) (b - 1, B0) := by
  refine ⟨by show _ ≤ b - 1; omega, Int.le_refl _, h1, h2, h3, fun y K hy hK => ?_⟩
  exfalso
  have hK1 : Clq A d ((ch ++ [y]) ++ K) := by simpa using hK
  obtain ⟨_, g2, g3⟩ := clq_snoc.1 (clq_pre hK1)
  by_cases h0 : 0 < ch.length
  · obtain ⟨m, e1, e2⟩ := nxt_at hch h0
    have := (g3 _ (List.getElem_mem (show ch.length - 1 < ch.length by omega))).1
    omega
  · have e : ch = [] := List.eq_nil_of_length_eq_zero (by omega)
    subst e
    rw [nxt_nil] at hy
    omega
theorem pow_step {n c : Nat} (h : c < n) : ((2 ^ (n - c) : Nat) : Int) = 2 * ((2 ^ (n - (c + 1)) : Nat) : Int) := by
  rw [show n - c = (n - (c + 1)) + 1 by omega, Nat.pow_succ]
  omega
theorem visI_skip {A : List (List Int)} {d : Int} {ch : List Int} {b : Int} {best : List Int} {c : Nat} {r : CS} (h : VisI A d ch b best c r) (hc : c < A.length) (hq : ¬ Clq A d (ch ++ [(c : Int)])) : VisI A d ch b best (c + 1) r := by
  refine ⟨?_, h.hi, h.clq, h.mono, h.own, fun y K hy hK => ?_⟩
  · have h1 := h.lo
    have h2 := pow_step hc
    have h3 : 1 ≤ 2 ^ (A.length - (c + 1)) := Nat.one_le_two_pow
    omega
  · by_cases e : y = c
    · subst e
      have hK1 : Clq A d ((ch ++ [(c : Int)]) ++ K) := by simpa using hK
      exact (hq (clq_pre hK1)).elim
    · exact h.most y K (by omega) hK
theorem visI_take {A : List (List Int)} {d : Int} {ch : List Int} {b : Int} {best : List Int} {c : Nat} {r r' : CS} (h : VisI A d ch b best c r) (hc : c < A.length) (hv : Vis A d (ch ++ [(c : Int)]) r.1 r.2 r') : VisI A d ch b best (c + 1) r' := by
  have h1 := h.lo
  have h2 := pow_step hc
  have h4 := hv.lo
  rw [nxt_snoc] at h4
  have h5 := hv.hi
  have h6 := h.hi
  have h7 := hv.mono
  refine ⟨by omega, by omega, hv.clq, Nat.le_trans h.mono h7, Nat.le_trans h.own h7, fun y K hy hK => ?_⟩
  by_cases e : y = c
  · subst e
    have := hv.most K (by simpa using hK)
    simpa using this
  · exact Nat.le_trans (h.most y K (by omega) hK) h7
theorem visI_end {A : List (List Int)} {d : Int} {ch : List Int} {b : Int} {best : List Int} {r : CS} (h : VisI A d ch b best A.length r) : Vis A d ch b best r := by
  have h1 := h.lo
  have h6 := h.hi
  rw [Nat.sub_self, Nat.pow_zero] at h1
  refine ⟨by omega, by omega, h.clq, h.mono, fun K hK => ?_⟩
  cases K with
  | nil => simpa using h.own
  | cons y K => exact h.most y K (hK.rg y (by simp)).2 hK
end Go.Proofs.Ytkmhoebopfgpdaa
