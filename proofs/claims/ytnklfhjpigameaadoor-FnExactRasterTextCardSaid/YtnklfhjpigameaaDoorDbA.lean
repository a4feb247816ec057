/-
  OWN WORK: logarithms by tenth powers: plain: they are monotone.
-/
import Derived.Test.YtnklfhjpigameaaDoorBase
import Derived.Lib.ItoaNum
namespace Go.Proofs.YtnklfhjpigameaaDoor
open Go Go.Own Go.Proofs
set_option maxHeartbeats 4000000
set_option maxRecDepth 20000
set_option linter.unusedSimpArgs false
set_option linter.unusedVariables false
/-- a product of scaled numbers: number, exponent -/
def tm (x y : Nat × Nat) : Nat × Nat := if 1000000000 ≤ x.1 * y.1 / 100000000 then (x.1 * y.1 / 100000000 / 10, x.2 + y.2 + 1) else (x.1 * y.1 / 100000000, x.2 + y.2)
def Nm (x : Nat) : Prop := 100000000 ≤ x ∧ x < 1000000000
theorem tm_in {x y : Nat × Nat} (hx : Nm x.1) (hy : Nm y.1) : Nm (tm x y).1 ∧ x.2 + y.2 ≤ (tm x y).2 ∧ (tm x y).2 ≤ x.2 + y.2 + 1 ∧ x.1 * y.1 < 1000000000000000000 := by
  obtain ⟨a1, a2⟩ := hx
  obtain ⟨b1, b2⟩ := hy
  have l : 100000000 * 100000000 ≤ x.1 * y.1 := Nat.mul_le_mul a1 b1
  have u : x.1 * y.1 ≤ 999999999 * 999999999 := Nat.mul_le_mul (by omega) (by omega)
  unfold tm Nm
  split
  · refine ⟨⟨?_, ?_⟩, ?_, ?_, ?_⟩ <;> (try simp only) <;> omega
  · refine ⟨⟨?_, ?_⟩, ?_, ?_, ?_⟩ <;> (try simp only) <;> omega
/-- not greater, as scaled numbers -/
def lex (x y : Nat × Nat) : Prop := x.2 < y.2 ∨ (x.2 = y.2 ∧ x.1 ≤ y.1)
theorem lex_refl (x : Nat × Nat) : lex x x := .inr ⟨rfl, Nat.le_refl _⟩
theorem tm_mono {x y x' y' : Nat × Nat} (hx : Nm x.1) (hy : Nm y.1) (hx' : Nm x'.1) (hy' : Nm y'.1) (h1 : lex x x') (h2 : lex y y') : lex (tm x y) (tm x' y') := by
  obtain ⟨_, i1, i2, u⟩ := tm_in hx hy
  obtain ⟨_, i3, i4, u'⟩ := tm_in hx' hy'
  obtain ⟨a1, a2⟩ := hx
  obtain ⟨b1, b2⟩ := hy
  obtain ⟨c1, c2⟩ := hx'
  obtain ⟨d1, d2⟩ := hy'
  have m10 : ∀ p : Nat, p / 100000000 / 10 = p / 1000000000 := fun p => by rw [Nat.div_div_eq_div_mul]
  by_cases he : x.2 + y.2 = x'.2 + y'.2
  · have e1 : x.1 ≤ x'.1 := by rcases h1 with h | h <;> rcases h2 with g | g <;> omega
    have e2 : y.1 ≤ y'.1 := by rcases h1 with h | h <;> rcases h2 with g | g <;> omega
    have hp : x.1 * y.1 ≤ x'.1 * y'.1 := Nat.mul_le_mul e1 e2
    unfold tm lex
    generalize x.1 * y.1 = p at hp ⊢
    generalize x'.1 * y'.1 = q at hp ⊢
    by_cases g1 : 1000000000 ≤ p / 100000000
    · rw [if_pos g1, if_pos (show 1000000000 ≤ q / 100000000 by omega)]
      exact .inr ⟨by show _ + 1 = _ + 1; omega, by show p / 100000000 / 10 ≤ q / 100000000 / 10; omega⟩
    · rw [if_neg g1]
      by_cases g2 : 1000000000 ≤ q / 100000000
      · rw [if_pos g2]
        exact .inl (by show x.2 + y.2 < x'.2 + y'.2 + 1; omega)
      · rw [if_neg g2]
        exact .inr ⟨he, by show p / 100000000 ≤ q / 100000000; omega⟩
  · have hlt : x.2 + y.2 < x'.2 + y'.2 := by rcases h1 with h | h <;> rcases h2 with g | g <;> omega
    have key : x.2 + y.2 + 1 = x'.2 + y'.2 → x.1 * y.1 / 100000000 / 10 ≤ x'.1 * y'.1 / 100000000 := fun hs => by
      rw [m10]
      rcases h1 with h | ⟨h, h'⟩
      · obtain ⟨g, g'⟩ : y.2 = y'.2 ∧ y.1 ≤ y'.1 := by rcases h2 with k | k <;> omega
        have q1 : x.1 * y.1 ≤ 1000000000 * y.1 := Nat.mul_le_mul_right _ (by omega)
        have q2 : 100000000 * y'.1 ≤ x'.1 * y'.1 := Nat.mul_le_mul_right _ c1
        generalize x.1 * y.1 = p at q1 ⊢
        generalize x'.1 * y'.1 = q at q2 ⊢
        omega
      · have g : y.2 < y'.2 := by rcases h2 with k | k <;> omega
        have q1 : x.1 * y.1 ≤ x.1 * 1000000000 := Nat.mul_le_mul_left _ (by omega)
        have q2 : x'.1 * 100000000 ≤ x'.1 * y'.1 := Nat.mul_le_mul_left _ d1
        generalize x.1 * y.1 = p at q1 ⊢
        generalize x'.1 * y'.1 = q at q2 ⊢
        omega
    unfold tm lex
    generalize x.1 * y.1 = p at key ⊢
    generalize x'.1 * y'.1 = q at key ⊢
    by_cases g1 : 1000000000 ≤ p / 100000000
    · rw [if_pos g1]
      by_cases g2 : 1000000000 ≤ q / 100000000
      · rw [if_pos g2]
        exact .inl (by show x.2 + y.2 + 1 < x'.2 + y'.2 + 1; omega)
      · rw [if_neg g2]
        by_cases g3 : x.2 + y.2 + 1 = x'.2 + y'.2
        · exact .inr ⟨g3, key g3⟩
        · exact .inl (by show x.2 + y.2 + 1 < x'.2 + y'.2; omega)
    · rw [if_neg g1]
      by_cases g2 : 1000000000 ≤ q / 100000000
      · rw [if_pos g2]
        exact .inl (by show x.2 + y.2 < x'.2 + y'.2 + 1; omega)
      · rw [if_neg g2]
        exact .inl hlt
/-- the tenth power -/
def p10 (n : Nat) : Nat × Nat := tm (tm (tm (tm (n, 0) (n, 0)) (tm (n, 0) (n, 0))) (n, 0)) (tm (tm (tm (n, 0) (n, 0)) (tm (n, 0) (n, 0))) (n, 0))
theorem p10_in {n : Nat} (h : Nm n) : Nm (p10 n).1 ∧ (p10 n).2 ≤ 9 := by
  have a := tm_in (x := (n, 0)) (y := (n, 0)) h h
  have b := tm_in (x := tm (n, 0) (n, 0)) (y := tm (n, 0) (n, 0)) a.1 a.1
  have c := tm_in (x := tm (tm (n, 0) (n, 0)) (tm (n, 0) (n, 0))) (y := (n, 0)) b.1 h
  have d := tm_in (x := tm (tm (tm (n, 0) (n, 0)) (tm (n, 0) (n, 0))) (n, 0)) (y := tm (tm (tm (n, 0) (n, 0)) (tm (n, 0) (n, 0))) (n, 0)) c.1 c.1
  have a' := a.2.2.1
  have b' := b.2.2.1
  have c' := c.2.2.1
  have d' := d.2.2.1
  simp only at a' b' c' d'
  exact ⟨d.1, by unfold p10; omega⟩
theorem p10_mono {n m : Nat} (hn : Nm n) (hm : Nm m) (h : n ≤ m) : lex (p10 n) (p10 m) := by
  have o : lex (n, 0) (m, 0) := .inr ⟨rfl, h⟩
  have a := tm_in (x := (n, 0)) (y := (n, 0)) hn hn
  have b := tm_in (x := tm (n, 0) (n, 0)) (y := tm (n, 0) (n, 0)) a.1 a.1
  have c := tm_in (x := tm (tm (n, 0) (n, 0)) (tm (n, 0) (n, 0))) (y := (n, 0)) b.1 hn
  have a2 := tm_in (x := (m, 0)) (y := (m, 0)) hm hm
  have b2 := tm_in (x := tm (m, 0) (m, 0)) (y := tm (m, 0) (m, 0)) a2.1 a2.1
  have c2 := tm_in (x := tm (tm (m, 0) (m, 0)) (tm (m, 0) (m, 0))) (y := (m, 0)) b2.1 hm
  have l1 := tm_mono (x := (n, 0)) (y := (n, 0)) (x' := (m, 0)) (y' := (m, 0)) hn hn hm hm o o
  have l2 := tm_mono a.1 a.1 a2.1 a2.1 l1 l1
  have l3 := tm_mono (y := (n, 0)) (y' := (m, 0)) b.1 hn b2.1 hm l2 o
  exact tm_mono c.1 c.1 c2.1 c2.1 l3 l3
/-- one more digit of the logarithm -/
def lstep (x : Nat × Nat) : Nat × Nat := ((p10 x.1).1, 10 * x.2 + (p10 x.1).2)
theorem lstep_mono {x y : Nat × Nat} (hx : Nm x.1) (hy : Nm y.1) (h : lex x y) : lex (lstep x) (lstep y) := by
  have h1 := p10_in hx
  have h2 := p10_in hy
  rcases h with h | ⟨h, h'⟩
  · exact .inl (by show 10 * x.2 + (p10 x.1).2 < 10 * y.2 + (p10 y.1).2; omega)
  · rcases p10_mono hx hy h' with g | ⟨g, g'⟩
    · exact .inl (by show 10 * x.2 + (p10 x.1).2 < 10 * y.2 + (p10 y.1).2; omega)
    · exact .inr ⟨by show 10 * x.2 + (p10 x.1).2 = 10 * y.2 + (p10 y.1).2; omega, g'⟩
def lit : Nat → Nat × Nat → Nat × Nat
  | 0, x => x
  | k + 1, x => lstep (lit k x)
theorem lit_in : ∀ (k : Nat) {x : Nat × Nat}, Nm x.1 → Nm (lit k x).1
  | 0, _, h => h
  | k + 1, x, h => (p10_in (lit_in k h)).1
theorem lit_mono : ∀ (k : Nat) {x y : Nat × Nat}, Nm x.1 → Nm y.1 → lex x y → lex (lit k x) (lit k y)
  | 0, _, _, _, _, h => h
  | k + 1, x, y, hx, hy, h => lstep_mono (lit_in k hx) (lit_in k hy) (lit_mono k hx hy h)
theorem lit_le : ∀ (k : Nat) {x : Nat × Nat}, Nm x.1 → (lit k x).2 ≤ 10 ^ k * (x.2 + 1) - 1
  | 0, x, _ => by simp [lit]
  | k + 1, x, h => by
    have h1 := lit_le k h
    have h2 := (p10_in (lit_in k h)).2
    have h3 : (lit (k + 1) x).2 = 10 * (lit k x).2 + (p10 (lit k x).1).2 := rfl
    have h4 : 1 ≤ 10 ^ k * (x.2 + 1) := Nat.mul_pos (Nat.pow_pos (by omega)) (by omega)
    have h5 : 10 ^ (k + 1) * (x.2 + 1) = 10 * (10 ^ k * (x.2 + 1)) := by rw [Nat.pow_succ, Nat.mul_comm (10 ^ k) 10, Nat.mul_assoc]
    rw [h3, h5]
    omega
/-! numbers of nine digits -/
theorem pow_nDigits_le (u : Nat) (h : 1 ≤ u) : 10 ^ (Lib.nDigits u - 1) ≤ u := by
  induction u using Nat.strongRecOn with
  | _ u ih =>
    by_cases h10 : u < 10
    · rw [Lib.nDigits_small h10]; simpa using h
    · have h1 := ih (u / 10) (by omega) (by omega)
      have h2 := Lib.nDigits_pos (u / 10)
      rw [Lib.nDigits_big h10, show Lib.nDigits (u / 10) + 1 - 1 = (Lib.nDigits (u / 10) - 1) + 1 by omega, Nat.pow_succ]
      omega
/-- the exponent -/
def dg10 (n : Nat) : Nat := Lib.nDigits n - 1
theorem dg10_in {n : Nat} (h : 1 ≤ n) : 10 ^ dg10 n ≤ n ∧ n < 10 ^ (dg10 n + 1) := by
  have h1 := Lib.nDigits_pos n
  refine ⟨pow_nDigits_le n h, ?_⟩
  unfold dg10
  rw [show Lib.nDigits n - 1 + 1 = Lib.nDigits n by omega]
  exact Lib.lt_pow_nDigits n
theorem dg10_mono {n m : Nat} (h : 1 ≤ n) (hm : n ≤ m) : dg10 n ≤ dg10 m := by
  have h1 := (dg10_in h).1
  have h2 := (dg10_in (n := m) (by omega)).2
  have h3 : 10 ^ dg10 n < 10 ^ (dg10 m + 1) := by omega
  have := (Nat.pow_lt_pow_iff_right (a := 10) (by omega)).1 h3
  omega
theorem dg10_lt {n k : Nat} (h : 1 ≤ n) (hn : n < 10 ^ k) : dg10 n < k := by
  have h1 := (dg10_in h).1
  exact (Nat.pow_lt_pow_iff_right (a := 10) (by omega)).1 (show 10 ^ dg10 n < 10 ^ k by omega)
def nrm (n : Nat) : Nat := if dg10 n ≤ 8 then n * 10 ^ (8 - dg10 n) else n / 10 ^ (dg10 n - 8)
theorem nrm_in {n : Nat} (h : 1 ≤ n) : Nm (nrm n) := by
  obtain ⟨h1, h2⟩ := dg10_in h
  unfold nrm Nm
  split
  · rename_i h8
    have e1 : 10 ^ dg10 n * 10 ^ (8 - dg10 n) = 100000000 := by rw [← Nat.pow_add, show dg10 n + (8 - dg10 n) = 8 by omega]
    have e2 : 10 ^ (dg10 n + 1) * 10 ^ (8 - dg10 n) = 1000000000 := by rw [← Nat.pow_add, show dg10 n + 1 + (8 - dg10 n) = 9 by omega]
    refine ⟨by rw [← e1]; exact Nat.mul_le_mul_right _ h1, by rw [← e2]; exact Nat.mul_lt_mul_of_pos_right h2 (Nat.pow_pos (by omega))⟩
  · rename_i h8
    have e1 : 100000000 * 10 ^ (dg10 n - 8) = 10 ^ dg10 n := by rw [show (100000000 : Nat) = 10 ^ 8 from rfl, ← Nat.pow_add, show 8 + (dg10 n - 8) = dg10 n by omega]
    have e2 : 1000000000 * 10 ^ (dg10 n - 8) = 10 ^ (dg10 n + 1) := by rw [show (1000000000 : Nat) = 10 ^ 9 from rfl, ← Nat.pow_add, show 9 + (dg10 n - 8) = dg10 n + 1 by omega]
    exact ⟨(Nat.le_div_iff_mul_le (Nat.pow_pos (by omega))).2 (by rw [e1]; exact h1), (Nat.div_lt_iff_lt_mul (Nat.pow_pos (by omega))).2 (by rw [e2]; exact h2)⟩
theorem nrm_mono {n m : Nat} (h : 1 ≤ n) (hm : n ≤ m) : lex (nrm n, dg10 n) (nrm m, dg10 m) := by
  have hd := dg10_mono h hm
  by_cases e : dg10 n = dg10 m
  · refine .inr ⟨e, ?_⟩
    show nrm n ≤ nrm m
    unfold nrm
    rw [e]
    split
    · exact Nat.mul_le_mul_right _ hm
    · exact Nat.div_le_div_right hm
  · exact .inl (by show dg10 n < dg10 m; omega)
/-- ten times the decimal logarithm, in thousandths -/
def lgd (n : Nat) : Nat := (lit 4 (nrm n, dg10 n)).2
theorem lgd_mono {n m : Nat} (h : 1 ≤ n) (hm : n ≤ m) : lgd n ≤ lgd m := by
  rcases lit_mono 4 (x := (nrm n, dg10 n)) (y := (nrm m, dg10 m)) (nrm_in h) (nrm_in (by omega)) (nrm_mono h hm) with g | ⟨g, _⟩
  · exact Nat.le_of_lt g
  · exact Nat.le_of_eq g
theorem lgd_le {n k : Nat} (h : 1 ≤ n) (hn : n < 10 ^ k) : lgd n < 10000 * k := by
  have h1 := lit_le 4 (x := (nrm n, dg10 n)) (nrm_in h)
  have h2 := dg10_lt h hn
  unfold lgd
  simp only at h1
  omega
end Go.Proofs.YtnklfhjpigameaaDoor
