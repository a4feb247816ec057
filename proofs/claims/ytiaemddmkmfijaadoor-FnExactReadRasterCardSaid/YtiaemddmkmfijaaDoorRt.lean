/-
  OWN WORK: roots of numbers: two searches.
-/
import Derived.Test.YtiaemddmkmfijaaDoorLibA
namespace Go.Proofs.YtiaemddmkmfijaaDoor
open Go Go.Own Go.Proofs
set_option maxHeartbeats 4000000
set_option maxRecDepth 20000
set_option linter.unusedSimpArgs false
/-- the first number for which something is so that stays so -/
def isFst (p : Int → Prop) (n r : Nat) : Prop := r ≤ n ∧ (∀ i : Nat, i < r → ¬ p i) ∧ (r < n → p r)
/-- a root, rounded down -/
def isRt (n : Int) (r : Nat) : Prop := (r : Int) * r ≤ n ∧ n < ((r : Int) + 1) * ((r : Int) + 1)
theorem rt_ex : ∀ n : Nat, ∃ r, isRt n r
  | 0 => ⟨0, by simp, by simp⟩
  | n + 1 => by
    obtain ⟨r, h1, h2⟩ := rt_ex n
    by_cases h : ((r : Int) + 1) * ((r : Int) + 1) ≤ ((n + 1 : Nat) : Int)
    · refine ⟨r + 1, by simpa using h, ?_⟩
      have e : (((r + 1 : Nat) : Int) + 1) * (((r + 1 : Nat) : Int) + 1) = ((r : Int) + 1) * ((r : Int) + 1) + (2 * (r : Int) + 3) := by
        rw [show ((r + 1 : Nat) : Int) = (r : Int) + 1 by omega]
        simp only [Int.mul_add, Int.add_mul]
        omega
      rw [e]
      omega
    · exact ⟨r, by omega, by omega⟩
theorem rt_ex' {n : Int} (h : 0 ≤ n) : ∃ r, isRt n r := by
  obtain ⟨m, rfl⟩ := Int.eq_ofNat_of_zero_le h
  exact rt_ex m
theorem sq_mono {a b : Int} (h0 : 0 ≤ a) (h : a ≤ b) : a * a ≤ b * b := Int.mul_le_mul h h h0 (by omega)
theorem rt_le {n : Int} {r k : Nat} (h : isRt n r) (hk : (k : Int) * k ≤ n) : k ≤ r := by
  rcases Nat.lt_or_ge r k with h1 | h1
  · have := sq_mono (a := (r : Int) + 1) (b := k) (by omega) (by omega)
    have := h.2
    omega
  · exact h1
theorem rt_lt {n : Int} {r k : Nat} (h : isRt n r) (hk : n < (k : Int) * k) : r < k := by
  rcases Nat.lt_or_ge r k with h1 | h1
  · exact h1
  · have := sq_mono (a := (k : Int)) (b := r) (by omega) (by omega)
    have := h.1
    omega
noncomputable def rt (n : Int) : Nat := if h : 0 ≤ n then Classical.choose (rt_ex' h) else 0
theorem rt_is {n : Int} (h : 0 ≤ n) : isRt n (rt n) := by
  unfold rt
  rw [dif_pos h]
  exact Classical.choose_spec (rt_ex' h)
theorem rt_small {n : Int} (h : 0 ≤ n) (h1 : n ≤ 1000000000000) : rt n ≤ 1000000 := by
  have := rt_lt (k := 1000001) (rt_is h) (by omega)
  omega
/-! ### distances -/
noncomputable def dst (x y x' y' : Int) : Int := rt ((x - x') * (x - x') + (y - y') * (y - y'))
def OkPt (x y : Int) : Prop := (0 ≤ x ∧ x ≤ 200000) ∧ (0 ≤ y ∧ y ≤ 200000)
theorem sq_le {a b : Int} (h1 : -b ≤ a) (h2 : a ≤ b) : 0 ≤ a * a ∧ a * a ≤ b * b := by
  rcases Int.le_total 0 a with h | h
  · exact ⟨Int.mul_nonneg h h, sq_mono h h2⟩
  · have e : a * a = (-a) * (-a) := by rw [Int.neg_mul_neg]
    rw [e]
    exact ⟨Int.mul_nonneg (by omega) (by omega), sq_mono (by omega) (by omega)⟩
theorem sq_flip (a b : Int) : (b - a) * (b - a) = (a - b) * (a - b) := by
  rw [show b - a = -(a - b) by omega, Int.neg_mul_neg]
end Go.Proofs.YtiaemddmkmfijaaDoor
