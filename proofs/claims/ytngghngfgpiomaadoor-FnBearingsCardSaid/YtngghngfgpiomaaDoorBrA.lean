/-
  OWN WORK: sines of whole degrees, bearings, steps: plain.
-/
import Derived.Test.YtngghngfgpiomaaDoorLibA
namespace Go.Proofs.YtngghngfgpiomaaDoor
open Go Go.Own Go.Proofs
set_option maxHeartbeats 4000000
set_option maxRecDepth 20000
set_option linter.unusedSimpArgs false
def snN (m : Nat) : Int := if m ≤ 90 then tab_sineTable.getD m 0 else if m < 180 then tab_sineTable.getD (180 - m) 0 else if m ≤ 270 then -(tab_sineTable.getD (m - 180) 0) else -(tab_sineTable.getD (360 - m) 0)
def eX (m : Nat) : Int := snN (m % 360)
def eY (m : Nat) : Int := snN ((m + 90) % 360)
def dt (a1 a2 b1 b2 : Int) : Int := a2 * b1 - a1 * b2
def okPair (x : Nat) : Bool :=
  (List.range 357).all fun k => decide (0 < dt (eX x - eX (x + k + 2)) (eY x - eY (x + k + 2)) (eX x - eX (x + 359)) (eY x - eY (x + 359))) && decide (0 < dt (eX x - eX (x + 1)) (eY x - eY (x + 1)) (eX x - eX (x + k + 2)) (eY x - eY (x + k + 2)))
theorem pairs_ok : ((List.range 90).all okPair) = true := by decide +kernel
def okOne (x : Nat) : Bool :=
  decide (snN ((x + 180) % 360) = -snN x) && decide (-1000000 ≤ snN x ∧ snN x ≤ 1000000) && decide (999998 * 999998 ≤ eX x * eX x + eY x * eY x ∧ eX x * eX x + eY x * eY x ≤ 1000002 * 1000002 ∧ eX x * eX x + eY x * eY x < 1000003000000 ∧ 999997000000 < eX x * eX x + eY x * eY x) &&
  decide (0 < dt (eX x - eX (x + 1)) (eY x - eY (x + 1)) (eX x - eX (x + 359)) (eY x - eY (x + 359))) &&
  decide (0 < dt (eX x) (eY x) (eX (x + 1)) (eY (x + 1)) ∧ (eX x * (eX x - eX (x + 1)) + eY x * (eY x - eY (x + 1))) * 1000 ≤ 9 * dt (eX x) (eY x) (eX (x + 1)) (eY (x + 1))) &&
  decide (0 < dt (eX (x + 359)) (eY (x + 359)) (eX x) (eY x) ∧ (eX x * (eX x - eX (x + 359)) + eY x * (eY x - eY (x + 359))) * 1000 ≤ 9 * dt (eX (x + 359)) (eY (x + 359)) (eX x) (eY x)) &&
  decide ((eX x + eY x ≤ 1414216 ∧ -1414216 ≤ eX x + eY x) ∧ (eX x - eY x ≤ 1414216 ∧ -1414216 ≤ eX x - eY x))
theorem ones_ok : ((List.range 360).all okOne) = true := by decide +kernel
structure One (x : Nat) : Prop where
  half : snN ((x + 180) % 360) = -snN x
  bnd : -1000000 ≤ snN x ∧ snN x ≤ 1000000
  nrm : 999998 * 999998 ≤ eX x * eX x + eY x * eY x ∧ eX x * eX x + eY x * eY x ≤ 1000002 * 1000002 ∧ eX x * eX x + eY x * eY x < 1000003000000 ∧ 999997000000 < eX x * eX x + eY x * eY x
  trn : 0 < dt (eX x - eX (x + 1)) (eY x - eY (x + 1)) (eX x - eX (x + 359)) (eY x - eY (x + 359))
  nxt : 0 < dt (eX x) (eY x) (eX (x + 1)) (eY (x + 1)) ∧ (eX x * (eX x - eX (x + 1)) + eY x * (eY x - eY (x + 1))) * 1000 ≤ 9 * dt (eX x) (eY x) (eX (x + 1)) (eY (x + 1))
  prv : 0 < dt (eX (x + 359)) (eY (x + 359)) (eX x) (eY x) ∧ (eX x * (eX x - eX (x + 359)) + eY x * (eY x - eY (x + 359))) * 1000 ≤ 9 * dt (eX (x + 359)) (eY (x + 359)) (eX x) (eY x)
  dia : (eX x + eY x ≤ 1414216 ∧ -1414216 ≤ eX x + eY x) ∧ (eX x - eY x ≤ 1414216 ∧ -1414216 ≤ eX x - eY x)
theorem one_of {x : Nat} (h : x < 360) : One x := by
  have := List.all_eq_true.1 ones_ok x (List.mem_range.2 h)
  simp only [okOne, Bool.and_eq_true, decide_eq_true_eq] at this
  obtain ⟨⟨⟨⟨⟨⟨a, b⟩, c⟩, d⟩, e⟩, f⟩, g⟩ := this
  exact ⟨a, b, c, d, e, f, g⟩
theorem eX_mod (m : Nat) : eX (m % 360) = eX m := by unfold eX; rw [Nat.mod_mod]
theorem eY_mod (m : Nat) : eY (m % 360) = eY m := by
  unfold eY
  congr 1
  omega
/-- how far into a direction -/
def tow (u1 u2 : Int) (m : Nat) : Int := u1 * eX m + u2 * eY m
theorem tow_mod (u1 u2 : Int) (m : Nat) : tow u1 u2 (m % 360) = tow u1 u2 m := by unfold tow; rw [eX_mod, eY_mod]
theorem eX_half (m : Nat) : eX (m + 180) = -eX m := by
  unfold eX
  have h := (one_of (x := m % 360) (Nat.mod_lt _ (by omega))).half
  rw [← h]
  congr 1
  omega
theorem eY_half (m : Nat) : eY (m + 180) = -eY m := by
  unfold eY
  have h := (one_of (x := (m + 90) % 360) (Nat.mod_lt _ (by omega))).half
  rw [← h]
  congr 1
  omega
theorem tow_half (u1 u2 : Int) (m : Nat) : tow u1 u2 (m + 180) = -tow u1 u2 m := by
  unfold tow
  rw [eX_half, eY_half, Int.mul_neg, Int.mul_neg]
  omega
theorem tow_neg (u1 u2 : Int) (m : Nat) : tow (-u1) (-u2) m = -tow u1 u2 m := by
  unfold tow
  rw [Int.neg_mul, Int.neg_mul]
  omega
theorem eX_quarter (m : Nat) : eX (m + 90) = eY m := rfl
theorem eY_quarter (m : Nat) : eY (m + 90) = -eX m := by
  have : eY (m + 90) = eX (m + 180) := rfl
  rw [this, eX_half]
theorem tow_quarter (u1 u2 : Int) (m : Nat) : tow u1 u2 (m + 90) = tow (-u2) u1 m := by
  unfold tow
  rw [eX_quarter, eY_quarter, Int.mul_neg, Int.neg_mul]
  omega
theorem cramer (p1 p2 q1 q2 r1 r2 : Int) : dt p1 p2 q1 q2 * r1 = dt r1 r2 q1 q2 * p1 + dt p1 p2 r1 r2 * q1 ∧ dt p1 p2 q1 q2 * r2 = dt r1 r2 q1 q2 * p2 + dt p1 p2 r1 r2 * q2 := by
  unfold dt
  constructor <;> grind
end Go.Proofs.YtngghngfgpiomaaDoor
