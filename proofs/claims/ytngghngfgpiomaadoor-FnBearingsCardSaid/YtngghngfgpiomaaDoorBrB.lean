/-
  OWN WORK: bearings of both directions, and steps by bearing and distance: plain.
-/
import Derived.Test.YtngghngfgpiomaaDoorBrA
namespace Go.Proofs.YtngghngfgpiomaaDoor
open Go Go.Own Go.Proofs
set_option maxHeartbeats 4000000
set_option maxRecDepth 20000
set_option linter.unusedSimpArgs false
theorem near90 {u1 u2 : Int} (hu : ¬ (u1 = 0 ∧ u2 = 0)) {x z : Nat} (hx : x < 90) (hz : z < 360) (mx : ∀ d : Nat, tow u1 u2 d ≤ tow u1 u2 x) (mz : tow u1 u2 z = tow u1 u2 x) : z = x ∨ z = x + 1 ∨ z = (x + 359) % 360 := by
  refine Classical.byContradiction fun hn => ?_
  obtain ⟨k, hk, ek⟩ : ∃ k : Nat, k < 357 ∧ z = (x + k + 2) % 360 := by
    by_cases h : x ≤ z
    · exact ⟨z - x - 2, by omega, by omega⟩
    · exact ⟨z + 360 - x - 2, by omega, by omega⟩
  have h1 := List.all_eq_true.1 pairs_ok x (List.mem_range.2 hx)
  have h2 := List.all_eq_true.1 h1 k (List.mem_range.2 hk)
  simp only [Bool.and_eq_true, decide_eq_true_eq] at h2
  obtain ⟨hA, hB⟩ := h2
  have hD := (one_of (x := x) (by omega)).trn
  have m1 := mx (x + 1)
  have m2 := mx (x + 359)
  have m3 : tow u1 u2 (x + k + 2) = tow u1 u2 x := by rw [← tow_mod, ← ek]; exact mz
  unfold tow at m1 m2 m3
  generalize eX x = a1 at *
  generalize eY x = a2 at *
  generalize eX (x + 1) = b1 at *
  generalize eY (x + 1) = b2 at *
  generalize eX (x + 359) = c1 at *
  generalize eY (x + 359) = c2 at *
  generalize eX (x + k + 2) = r1 at *
  generalize eY (x + k + 2) = r2 at *
  generalize hA' : dt (a1 - r1) (a2 - r2) (a1 - c1) (a2 - c2) = A at hA
  generalize hB' : dt (a1 - b1) (a2 - b2) (a1 - r1) (a2 - r2) = B at hB
  generalize hD' : dt (a1 - b1) (a2 - b2) (a1 - c1) (a2 - c2) = D at hD
  have key : D * ((u1 * a1 + u2 * a2) - (u1 * r1 + u2 * r2)) = A * ((u1 * a1 + u2 * a2) - (u1 * b1 + u2 * b2)) + B * ((u1 * a1 + u2 * a2) - (u1 * c1 + u2 * c2)) := by
    rw [← hA', ← hB', ← hD']
    unfold dt
    grind
  have e0 : (u1 * a1 + u2 * a2) - (u1 * r1 + u2 * r2) = 0 := by omega
  rw [e0, Int.mul_zero] at key
  have d1 : D * u1 = (a2 - b2) * ((u1 * a1 + u2 * a2) - (u1 * c1 + u2 * c2)) - (a2 - c2) * ((u1 * a1 + u2 * a2) - (u1 * b1 + u2 * b2)) := by
    rw [← hD']
    unfold dt
    grind
  have d2 : D * u2 = (a1 - c1) * ((u1 * a1 + u2 * a2) - (u1 * b1 + u2 * b2)) - (a1 - b1) * ((u1 * a1 + u2 * a2) - (u1 * c1 + u2 * c2)) := by
    rw [← hD']
    unfold dt
    grind
  generalize hP : (u1 * a1 + u2 * a2) - (u1 * b1 + u2 * b2) = P at key d1 d2
  generalize hQ : (u1 * a1 + u2 * a2) - (u1 * c1 + u2 * c2) = Q at key d1 d2
  have hP0 : 0 ≤ P := by omega
  have hQ0 : 0 ≤ Q := by omega
  have i1 := Int.mul_nonneg (Int.le_of_lt hA) hP0
  have i2 := Int.mul_nonneg (Int.le_of_lt hB) hQ0
  have z1 : A * P = 0 := by omega
  have z2 : B * Q = 0 := by omega
  have P0 : P = 0 := (Int.mul_eq_zero.1 z1).resolve_left (by omega)
  have Q0 : Q = 0 := (Int.mul_eq_zero.1 z2).resolve_left (by omega)
  rw [P0, Q0, Int.mul_zero, Int.mul_zero, Int.sub_zero] at d1 d2
  exact hu ⟨(Int.mul_eq_zero.1 d1).resolve_left (by omega), (Int.mul_eq_zero.1 d2).resolve_left (by omega)⟩
theorem near {u1 u2 : Int} (hu : ¬ (u1 = 0 ∧ u2 = 0)) {x z : Nat} (hx : x < 360) (hz : z < 360) (mx : ∀ d : Nat, tow u1 u2 d ≤ tow u1 u2 x) (mz : tow u1 u2 z = tow u1 u2 x) : z = x ∨ z = (x + 1) % 360 ∨ z = (x + 359) % 360 := by
  have key : ∀ (n : Nat) (u1 u2 : Int) (x z : Nat), ¬ (u1 = 0 ∧ u2 = 0) → x < 90 * (n + 1) → x < 360 → z < 360 → (∀ d : Nat, tow u1 u2 d ≤ tow u1 u2 x) → tow u1 u2 z = tow u1 u2 x → z = x ∨ z = (x + 1) % 360 ∨ z = (x + 359) % 360 := by
    intro n
    induction n with
    | zero =>
      intro u1 u2 x z hu hx hx2 hz mx mz
      have := near90 hu (by omega) hz mx mz
      omega
    | succ n ih =>
      intro u1 u2 x z hu hx hx2 hz mx mz
      by_cases h : x < 90
      · have := near90 hu h hz mx mz
        omega
      · have ex : x - 90 + 90 = x := by omega
        have e1 : tow u1 u2 x = tow (-u2) u1 (x - 90) := by rw [← tow_quarter, ex]
        have e2 : tow u1 u2 z = tow (-u2) u1 ((z + 270) % 360) := by
          rw [← tow_quarter, ← tow_mod, ← tow_mod u1 u2 ((z + 270) % 360 + 90)]
          congr 1
          omega
        have := ih (-u2) u1 (x - 90) ((z + 270) % 360) (fun h => hu (by omega)) (by omega) (by omega) (by omega) (fun d => by rw [← tow_quarter, ← e1]; exact mx _) (by rw [← e1, ← e2]; exact mz)
        omega
  exact key 3 u1 u2 x z hu (by omega) hx hz mx mz
/-! ### the bearing -/
def brK (u1 u2 : Int) : Nat → Nat
  | 0 => 0
  | k + 1 => if tow u1 u2 (brK u1 u2 k) < tow u1 u2 (k + 1) then k + 1 else brK u1 u2 k
theorem brK_le (u1 u2 : Int) : ∀ k, brK u1 u2 k ≤ k
  | 0 => Nat.le_refl _
  | k + 1 => by
    have := brK_le u1 u2 k
    unfold brK
    split <;> omega
theorem brK_max (u1 u2 : Int) : ∀ k d, d ≤ k → tow u1 u2 d ≤ tow u1 u2 (brK u1 u2 k)
  | 0, d, h => by
    obtain rfl : d = 0 := by omega
    exact Int.le_refl _
  | k + 1, d, h => by
    unfold brK
    split
    · rename_i hlt
      by_cases e : d = k + 1
      · subst e; exact Int.le_refl _
      · have := brK_max u1 u2 k d (by omega); omega
    · rename_i hlt
      by_cases e : d = k + 1
      · subst e; omega
      · exact brK_max u1 u2 k d (by omega)
def brg (u1 u2 : Int) : Nat := brK u1 u2 359
theorem brg_lt (u1 u2 : Int) : brg u1 u2 < 360 := by
  have := brK_le u1 u2 359
  unfold brg
  omega
theorem brg_max (u1 u2 : Int) (d : Nat) : tow u1 u2 d ≤ tow u1 u2 (brg u1 u2) := by
  rw [← tow_mod]
  exact brK_max u1 u2 359 _ (by omega)
/-- the angle between two directions -/
def tm (a : Int) : Int := if 0 ≤ a then a % 360 else -((-a) % 360)
theorem tm_tmod (a : Int) : a.tmod 360 = tm a := by
  unfold tm
  by_cases h : 0 ≤ a
  · rw [if_pos h, Int.tmod_eq_emod_of_nonneg h]
  · rw [if_neg h]
    have : a = -(-a) := by omega
    rw [this, Int.neg_tmod, Int.tmod_eq_emod_of_nonneg (by omega)]
    simp
def ab (n : Int) : Int := if 0 ≤ n then n else -n
def trnD (a b : Int) : Int := ab (tm a - tm b) % 360
def trn (a b : Int) : Int := if trnD a b ≤ 360 - trnD a b then trnD a b else 360 - trnD a b
theorem trn_in (a b : Int) : 0 ≤ trn a b ∧ trn a b ≤ 180 := by unfold trn trnD; split <;> omega
theorem trn_comm (a b : Int) : trn a b = trn b a := by
  have : trnD a b = trnD b a := by unfold trnD ab; split <;> split <;> omega
  unfold trn
  rw [this]
theorem trn_self (a : Int) : trn a a = 0 := by
  have : trnD a a = 0 := by unfold trnD ab; split <;> omega
  unfold trn
  rw [this]
  decide
theorem trn_add {a b : Int} (h1 : -360 ≤ a) (h2 : a < 360) : trn (a + 360) b = trn a b := by
  unfold trn trnD ab tm
  repeat' split
  all_goals omega
/-- bearings of both directions are opposite -/
theorem brg_opp {u1 u2 : Int} (hu : ¬ (u1 = 0 ∧ u2 = 0)) : 179 ≤ trn (brg u1 u2) (brg (-u1) (-u2)) := by
  have h1 := brg_lt u1 u2
  have h2 := brg_lt (-u1) (-u2)
  have e1 : tow u1 u2 ((brg (-u1) (-u2) + 180) % 360) = tow u1 u2 (brg u1 u2) := by
    rw [tow_mod, tow_half]
    have a := brg_max (-u1) (-u2) (brg u1 u2 + 180)
    rw [tow_neg, tow_neg, tow_half] at a
    have b := brg_max u1 u2 (brg (-u1) (-u2) + 180)
    rw [tow_half] at b
    omega
  have hn := near hu h1 (z := (brg (-u1) (-u2) + 180) % 360) (Nat.mod_lt _ (by omega)) (brg_max u1 u2) e1
  unfold trn trnD ab tm
  generalize brg u1 u2 = x at *
  generalize brg (-u1) (-u2) = y at *
  repeat' split
  all_goals omega
/-! ### a step by bearing and distance -/
/-- the nearest quotient -/
def IsDr (M n d : Int) : Prop := 2 * (M * d - n) ≤ M ∧ -M ≤ 2 * (M * d - n)
theorem tow_pos (u1 u2 : Int) : 0 ≤ tow u1 u2 (brg u1 u2) := by
  have := brg_max u1 u2 (brg u1 u2 + 180)
  rw [tow_half] at this
  omega
def sid (u1 u2 : Int) (m : Nat) : Int := u1 * eY m - u2 * eX m
theorem sid_bound (u1 u2 : Int) : sid u1 u2 (brg u1 u2) * 1000 ≤ 9 * tow u1 u2 (brg u1 u2) ∧ -(9 * tow u1 u2 (brg u1 u2)) ≤ sid u1 u2 (brg u1 u2) * 1000 := by
  have hx := brg_lt u1 u2
  have m1 := brg_max u1 u2 (brg u1 u2 + 1)
  have m2 := brg_max u1 u2 (brg u1 u2 + 359)
  have hp := tow_pos u1 u2
  have ho := one_of hx
  obtain ⟨n1, n2⟩ := ho.nxt
  obtain ⟨l1, l2⟩ := ho.prv
  have n0 := ho.nrm.1
  unfold sid
  unfold tow at *
  generalize brg u1 u2 = x at *
  generalize eX x = a1 at *
  generalize eY x = a2 at *
  generalize eX (x + 1) = b1 at *
  generalize eY (x + 1) = b2 at *
  generalize eX (x + 359) = c1 at *
  generalize eY (x + 359) = c2 at *
  generalize hS : dt a1 a2 b1 b2 = S at n1 n2
  generalize hS2 : dt c1 c2 a1 a2 = S2 at l1 l2
  generalize hK : a1 * (a1 - b1) + a2 * (a2 - b2) = K at n2
  generalize hK2 : a1 * (a1 - c1) + a2 * (a2 - c2) = K2 at l2
  have k1 : (a1 * a1 + a2 * a2) * ((u1 * a1 + u2 * a2) - (u1 * b1 + u2 * b2)) = (u1 * a1 + u2 * a2) * K - (u1 * a2 - u2 * a1) * S := by
    rw [← hS, ← hK]
    unfold dt
    grind
  have k2 : (a1 * a1 + a2 * a2) * ((u1 * a1 + u2 * a2) - (u1 * c1 + u2 * c2)) = (u1 * a1 + u2 * a2) * K2 - (-(u1 * a2 - u2 * a1)) * S2 := by
    rw [← hS2, ← hK2]
    unfold dt
    grind
  generalize u1 * a1 + u2 * a2 = P at *
  generalize u1 * a2 - u2 * a1 = Q at *
  have g1 : 0 ≤ (a1 * a1 + a2 * a2) * (P - (u1 * b1 + u2 * b2)) := Int.mul_nonneg (by omega) (by omega)
  have g2 : 0 ≤ (a1 * a1 + a2 * a2) * (P - (u1 * c1 + u2 * c2)) := Int.mul_nonneg (by omega) (by omega)
  have f1 : P * (K * 1000) ≤ P * (9 * S) := Int.mul_le_mul_of_nonneg_left n2 hp
  have f2 : P * (K2 * 1000) ≤ P * (9 * S2) := Int.mul_le_mul_of_nonneg_left l2 hp
  constructor
  · have e1 : (Q * 1000) * S ≤ (9 * P) * S := by
      have a1 : (Q * 1000) * S = 1000 * (Q * S) := by grind
      have a2 : (9 * P) * S = P * (9 * S) := by grind
      have a3 : P * (K * 1000) = 1000 * (P * K) := by grind
      omega
    exact Int.le_of_mul_le_mul_right e1 n1
  · have e1 : (-(9 * P)) * S2 ≤ (Q * 1000) * S2 := by
      have a1 : (Q * 1000) * S2 = -(1000 * (-Q * S2)) := by grind
      have a2 : (-(9 * P)) * S2 = -(P * (9 * S2)) := by grind
      have a3 : P * (K2 * 1000) = 1000 * (P * K2) := by grind
      omega
    exact Int.le_of_mul_le_mul_right e1 l1
theorem sqb_le {a b : Int} (h1 : -b ≤ a) (h2 : a ≤ b) : a * a ≤ b * b := by
  by_cases h : 0 ≤ a
  · exact Int.mul_le_mul h2 h2 h (by omega)
  · have : (-a) * (-a) ≤ b * b := Int.mul_le_mul (by omega) (by omega) (by omega) (by omega)
    rw [Int.neg_mul_neg] at this
    exact this
theorem le_of_sq {a b : Int} (hb : 0 ≤ b) (h : a * a ≤ b * b) : a ≤ b := by
  refine Classical.byContradiction fun hn => ?_
  have h1 := sqb_le (a := b + 1) (b := a) (by omega) (by omega)
  have e : (b + 1) * (b + 1) = b * b + 2 * b + 1 := by grind
  rw [e] at h1
  generalize a * a = A at *
  generalize b * b = B at *
  omega
theorem mul_bnd {z a B : Int} (h1 : -B ≤ z) (h2 : z ≤ B) : (0 ≤ a → -(B * a) ≤ z * a ∧ z * a ≤ B * a) ∧ (a ≤ 0 → B * a ≤ z * a ∧ z * a ≤ -(B * a)) := by
  refine ⟨fun ha => ?_, fun ha => ?_⟩
  · have a1 := Int.mul_le_mul_of_nonneg_right h1 ha
    have a2 := Int.mul_le_mul_of_nonneg_right h2 ha
    rw [Int.neg_mul] at a1
    exact ⟨a1, a2⟩
  · have a1 := Int.mul_le_mul_of_nonneg_right h1 (show 0 ≤ -a by omega)
    have a2 := Int.mul_le_mul_of_nonneg_right h2 (show 0 ≤ -a by omega)
    rw [Int.mul_neg, Int.mul_neg, Int.neg_mul] at a1
    rw [Int.mul_neg, Int.mul_neg] at a2
    omega
theorem sq_nonneg (a : Int) : 0 ≤ a * a := by
  by_cases h : 0 ≤ a
  · exact Int.mul_nonneg h h
  · rw [← Int.neg_mul_neg]; exact Int.mul_nonneg (by omega) (by omega)
/-- moving by bearing and distance leads near to the point -/
theorem move_law {u1 u2 D s1 s2 : Int} (hD : 0 ≤ D) (h1 : D * D ≤ u1 * u1 + u2 * u2) (h2 : u1 * u1 + u2 * u2 < (D + 1) * (D + 1))
    (d1 : IsDr 1000000 (D * eX (brg u1 u2)) s1) (d2 : IsDr 1000000 (D * eY (brg u1 u2)) s2) {R : Int} (hR : 0 ≤ R) (hR2 : R * R ≤ (s1 - u1) * (s1 - u1) + (s2 - u2) * (s2 - u2)) : R ≤ D / 100 + 3 := by
  have hx := brg_lt u1 u2
  have hp := tow_pos u1 u2
  obtain ⟨q1, q2⟩ := sid_bound u1 u2
  have ho := one_of hx
  obtain ⟨n1, n2, _, _⟩ := ho.nrm
  obtain ⟨⟨x1, x2⟩, x3, x4⟩ := ho.dia
  have bx : -1000000 ≤ eX (brg u1 u2) ∧ eX (brg u1 u2) ≤ 1000000 := by
    have := ho.bnd
    unfold eX
    rw [Nat.mod_eq_of_lt hx]
    exact this
  have by' : -1000000 ≤ eY (brg u1 u2) ∧ eY (brg u1 u2) ≤ 1000000 := (one_of (x := (brg u1 u2 + 90) % 360) (Nat.mod_lt _ (by omega))).bnd
  have idn : tow u1 u2 (brg u1 u2) * tow u1 u2 (brg u1 u2) + sid u1 u2 (brg u1 u2) * sid u1 u2 (brg u1 u2) = (eX (brg u1 u2) * eX (brg u1 u2) + eY (brg u1 u2) * eY (brg u1 u2)) * (u1 * u1 + u2 * u2) := by
    unfold tow sid
    grind
  generalize hP : tow u1 u2 (brg u1 u2) = P at *
  generalize hQ : sid u1 u2 (brg u1 u2) = Q at *
  unfold tow at hP
  unfold sid at hQ
  generalize eX (brg u1 u2) = a1 at *
  generalize eY (brg u1 u2) = a2 at *
  generalize hU : u1 * u1 + u2 * u2 = U at *
  generalize hN : a1 * a1 + a2 * a2 = N at *
  have hU0 : 0 ≤ U := by have := Int.mul_nonneg hD hD; omega
  -- bounds of P
  have hQ2 := sq_nonneg Q
  have hD2 := sq_nonneg D
  have pU : P ≤ 1000002 * (D + 1) := by
    refine le_of_sq (by omega) ?_
    have e2 : N * U ≤ (1000002 * 1000002) * U := Int.mul_le_mul_of_nonneg_right n2 hU0
    have e4 : (1000002 * (D + 1)) * (1000002 * (D + 1)) = (1000002 * 1000002) * ((D + 1) * (D + 1)) := by grind
    rw [e4]
    generalize (D + 1) * (D + 1) = E at *
    generalize P * P = P2 at *
    generalize Q * Q = Q2 at *
    generalize N * U = NU at *
    omega
  have qq : (Q * 1000) * (Q * 1000) ≤ (9 * P) * (9 * P) := sqb_le q2 q1
  have pL : 999950 * D ≤ P := by
    refine le_of_sq hp ?_
    have e1 : (Q * 1000) * (Q * 1000) = 1000000 * (Q * Q) := by grind
    have e2 : (9 * P) * (9 * P) = 81 * (P * P) := by grind
    have e3 : (999998 * 999998) * U ≤ N * U := Int.mul_le_mul_of_nonneg_right n1 hU0
    have e5 : (999950 * D) * (999950 * D) = 999900002500 * (D * D) := by grind
    rw [e1, e2] at qq
    rw [e5]
    generalize D * D = D2 at *
    generalize P * P = P2 at *
    generalize Q * Q = Q2 at *
    generalize N * U = NU at *
    omega
  obtain ⟨i1, i2⟩ := d1
  obtain ⟨j1, j2⟩ := d2
  -- what is missed
  generalize hz1 : 1000000 * s1 - D * a1 = z1 at i1 i2
  generalize hz2 : 1000000 * s2 - D * a2 = z2 at j1 j2
  -- along and across
  have al : 1000000 * ((s1 - u1) * a1 + (s2 - u2) * a2) = (z1 * a1 + z2 * a2) + (D * N - 1000000 * P) := by
    rw [← hz1, ← hz2, ← hN, ← hP]
    grind
  have ac : 1000000 * ((s1 - u1) * a2 - (s2 - u2) * a1) = (z1 * a2 - z2 * a1) - 1000000 * Q := by
    rw [← hz1, ← hz2, ← hQ]
    grind
  have nn : ((s1 - u1) * a1 + (s2 - u2) * a2) * ((s1 - u1) * a1 + (s2 - u2) * a2) + ((s1 - u1) * a2 - (s2 - u2) * a1) * ((s1 - u1) * a2 - (s2 - u2) * a1) = N * ((s1 - u1) * (s1 - u1) + (s2 - u2) * (s2 - u2)) := by
    rw [← hN]
    grind
  have b1 := @mul_bnd z1 a1 500000 (by omega) (by omega)
  have b2 := @mul_bnd z2 a2 500000 (by omega) (by omega)
  have b3 := @mul_bnd z1 a2 500000 (by omega) (by omega)
  have b4 := @mul_bnd z2 a1 500000 (by omega) (by omega)
  have m1 : -707108000000 ≤ z1 * a1 + z2 * a2 ∧ z1 * a1 + z2 * a2 ≤ 707108000000 := by
    generalize z1 * a1 = t1 at *
    generalize z2 * a2 = t2 at *
    rcases Int.le_total 0 a1 with g1 | g1 <;> rcases Int.le_total 0 a2 with g2 | g2
    · have := b1.1 g1; have := b2.1 g2; omega
    · have := b1.1 g1; have := b2.2 g2; omega
    · have := b1.2 g1; have := b2.1 g2; omega
    · have := b1.2 g1; have := b2.2 g2; omega
  have m2 : -707108000000 ≤ z1 * a2 - z2 * a1 ∧ z1 * a2 - z2 * a1 ≤ 707108000000 := by
    generalize z1 * a2 = t1 at *
    generalize z2 * a1 = t2 at *
    rcases Int.le_total 0 a1 with g1 | g1 <;> rcases Int.le_total 0 a2 with g2 | g2
    · have := b4.1 g1; have := b3.1 g2; omega
    · have := b4.1 g1; have := b3.2 g2; omega
    · have := b4.2 g1; have := b3.1 g2; omega
    · have := b4.2 g1; have := b3.2 g2; omega
  have dn1 := Int.mul_le_mul_of_nonneg_left n1 hD
  have dn2 := Int.mul_le_mul_of_nonneg_left n2 hD
  generalize hX : (s1 - u1) * a1 + (s2 - u2) * a2 = X at al nn
  generalize hY : (s1 - u1) * a2 - (s2 - u2) * a1 = Y at ac nn
  have hX2 : X * X ≤ (1707110 + 55 * D) * (1707110 + 55 * D) := by
    refine sqb_le ?_ ?_
    · generalize D * N = DN at *
      omega
    · generalize D * N = DN at *
      omega
  have hY2 : Y * Y ≤ (716109 + 9001 * D) * (716109 + 9001 * D) := by
    refine sqb_le ?_ ?_
    · omega
    · omega
  refine Classical.byContradiction fun hn => ?_
  have hr := sqb_le (a := D + 301) (b := 100 * R) (by omega) (by omega)
  have f1 : (D + 301) * (D + 301) = D * D + 602 * D + 90601 := by grind
  have f2 : (100 * R) * (100 * R) = 10000 * (R * R) := by grind
  have f3 : (1707110 + 55 * D) * (1707110 + 55 * D) = 2914224552100 + 187782100 * D + 3025 * (D * D) := by grind
  have f4 : (716109 + 9001 * D) * (716109 + 9001 * D) = 512812099881 + 12891394218 * D + 81018001 * (D * D) := by grind
  rw [f1, f2] at hr
  rw [f3] at hX2
  rw [f4] at hY2
  have hR2' := sq_nonneg R
  have f5 : (999998 * 999998) * (R * R) ≤ (999998 * 999998) * ((s1 - u1) * (s1 - u1) + (s2 - u2) * (s2 - u2)) := Int.mul_le_mul_of_nonneg_left hR2 (by omega)
  have f6 : (999998 * 999998) * ((s1 - u1) * (s1 - u1) + (s2 - u2) * (s2 - u2)) ≤ N * ((s1 - u1) * (s1 - u1) + (s2 - u2) * (s2 - u2)) := Int.mul_le_mul_of_nonneg_right n1 (by have := sq_nonneg (s1 - u1); have := sq_nonneg (s2 - u2); omega)
  rw [← nn] at f6
  have f7 := Int.le_trans f5 f6
  clear f5 f6 nn al ac m1 m2 b1 b2 b3 b4 hR2 qq pU pL dn1 dn2 h1 h2 idn
  generalize D * D = D2 at *
  generalize R * R = R2 at *
  generalize X * X = X2 at *
  generalize Y * Y = Y2 at *
  omega
end Go.Proofs.YtngghngfgpiomaaDoor
