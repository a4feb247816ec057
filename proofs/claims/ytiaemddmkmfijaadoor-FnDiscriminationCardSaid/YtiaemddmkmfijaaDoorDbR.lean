/-
  OWN WORK: plain: how near logarithms by tenth powers are.
-/
import Derived.Test.YtiaemddmkmfijaaDoorDbA
namespace Go.Proofs.YtiaemddmkmfijaaDoor
open Go Go.Own Go.Proofs
set_option maxHeartbeats 4000000
set_option maxRecDepth 20000
set_option linter.unusedSimpArgs false
set_option linter.unusedVariables false
/-- a scaled number stands for N: not above it, and not below by more than k parts of 10^8 -/
structure Ac (k s : Nat) (x : Nat × Nat) (N : Nat) : Prop where
  nm : Nm x.1
  up : x.1 * 10 ^ (x.2 + s) ≤ N * 100000000
  dn : N * 100000000 * 99999999 ^ k ≤ x.1 * 10 ^ (x.2 + s) * 100000000 ^ k
theorem f1_ (p : Nat) : p / 100000000 / 10 * 1000000000 ≤ p := by omega
theorem f2_ (p : Nat) (h : 1000000000 ≤ p / 100000000) : p * 99999999 ≤ p / 100000000 / 10 * 100000000000000000 := by
  have h3 : p ≤ 1000000000 * (p / 100000000 / 10 + 1) := by omega
  have h5 : 100000000 ≤ p / 100000000 / 10 := by omega
  generalize p / 100000000 / 10 = r at *
  have h4 : (r + 1) * 99999999 ≤ r * 100000000 := by omega
  have h6 := Nat.mul_le_mul h3 (Nat.le_refl 99999999)
  rw [Nat.mul_assoc] at h6
  have h7 := Nat.mul_le_mul (Nat.le_refl 1000000000) h4
  rw [Nat.mul_left_comm 1000000000 r] at h7
  exact Nat.le_trans h6 h7
theorem f3_ (p : Nat) : p / 100000000 * 100000000 ≤ p := by omega
theorem f4_ (p : Nat) (h : 10000000000000000 ≤ p) : p * 99999999 ≤ p / 100000000 * 10000000000000000 := by
  have h3 : p ≤ 100000000 * (p / 100000000 + 1) := by omega
  have h5 : 100000000 ≤ p / 100000000 := by omega
  generalize p / 100000000 = r at *
  have h4 : (r + 1) * 99999999 ≤ r * 100000000 := by omega
  have h6 := Nat.mul_le_mul h3 (Nat.le_refl 99999999)
  rw [Nat.mul_assoc] at h6
  have h7 := Nat.mul_le_mul (Nat.le_refl 100000000) h4
  rw [Nat.mul_left_comm 100000000 r] at h7
  exact Nat.le_trans h6 h7
theorem f5_ (n w q : Nat) (h6 : n ≤ w + q) (h7 : q * 100000000 ≤ w) : n * 100000000 * 99999999 ≤ w * 10000000000000000 := by
  have a1 : n * 99999999 ≤ (w + q) * 99999999 := Nat.mul_le_mul h6 (Nat.le_refl _)
  rw [Nat.add_mul] at a1
  have a3 : q * 99999999 ≤ w := Nat.le_trans (Nat.mul_le_mul (Nat.le_refl q) (by decide)) h7
  have a4 : w * 100000000 = w * 99999999 + w := Nat.mul_succ w 99999999
  have h4 : n * 99999999 ≤ w * 100000000 := by
    rw [a4]
    exact Nat.le_trans a1 (Nat.add_le_add_left a3 _)
  have h5 := Nat.mul_le_mul (Nat.le_refl 100000000) h4
  rw [← Nat.mul_assoc, Nat.mul_comm 100000000 n, Nat.mul_left_comm 100000000 w] at h5
  exact h5
theorem tm_near {x y : Nat × Nat} (hx : Nm x.1) (hy : Nm y.1) (u : Nat) : (tm x y).1 * 10 ^ ((tm x y).2 + u) * 100000000 ≤ x.1 * y.1 * 10 ^ (x.2 + y.2 + u) ∧ x.1 * y.1 * 10 ^ (x.2 + y.2 + u) * 99999999 ≤ (tm x y).1 * 10 ^ ((tm x y).2 + u) * 10000000000000000 := by
  obtain ⟨a1, a2⟩ := hx
  obtain ⟨b1, b2⟩ := hy
  have l : 100000000 * 100000000 ≤ x.1 * y.1 := Nat.mul_le_mul a1 b1
  rw [show (100000000 : Nat) * 100000000 = 10000000000000000 by decide] at l
  unfold tm
  generalize x.1 * y.1 = p at l ⊢
  split
  · rename_i h
    simp only
    have f1 := f1_ p
    have f2 := f2_ p h
    rw [show x.2 + y.2 + 1 + u = (x.2 + y.2 + u) + 1 by omega, Nat.pow_succ]
    generalize 10 ^ (x.2 + y.2 + u) = T
    have e1 : p / 100000000 / 10 * (T * 10) * 100000000 = (p / 100000000 / 10 * 1000000000) * T := by
      rw [Nat.mul_comm T 10, ← Nat.mul_assoc, Nat.mul_right_comm, Nat.mul_assoc (p / 100000000 / 10)]
    have e2 : p / 100000000 / 10 * (T * 10) * 10000000000000000 = (p / 100000000 / 10 * 100000000000000000) * T := by
      rw [Nat.mul_comm T 10, ← Nat.mul_assoc, Nat.mul_right_comm, Nat.mul_assoc (p / 100000000 / 10)]
    have e3 : p * T * 99999999 = (p * 99999999) * T := Nat.mul_right_comm ..
    rw [e1, e2, e3]
    exact ⟨Nat.mul_le_mul f1 (Nat.le_refl T), Nat.mul_le_mul f2 (Nat.le_refl T)⟩
  · simp only
    generalize 10 ^ (x.2 + y.2 + u) = T
    have e1 : p / 100000000 * T * 100000000 = (p / 100000000 * 100000000) * T := Nat.mul_right_comm ..
    have e2 : p / 100000000 * T * 10000000000000000 = (p / 100000000 * 10000000000000000) * T := Nat.mul_right_comm ..
    have e3 : p * T * 99999999 = (p * 99999999) * T := Nat.mul_right_comm ..
    have f1 := f3_ p
    have f2 := f4_ p l
    rw [e1, e2, e3]
    exact ⟨Nat.mul_le_mul f1 (Nat.le_refl T), Nat.mul_le_mul f2 (Nat.le_refl T)⟩
theorem ac_mul {k l s t N M : Nat} {x y : Nat × Nat} (hx : Ac k s x N) (hy : Ac l t y M) : Ac (k + l + 1) (s + t) (tm x y) (N * M) := by
  obtain ⟨n1, u1, d1⟩ := hx
  obtain ⟨n2, u2, d2⟩ := hy
  obtain ⟨h1, h2⟩ := tm_near n1 n2 (s + t)
  have e : x.1 * y.1 * 10 ^ (x.2 + y.2 + (s + t)) = (x.1 * 10 ^ (x.2 + s)) * (y.1 * 10 ^ (y.2 + t)) := by
    rw [show x.2 + y.2 + (s + t) = (x.2 + s) + (y.2 + t) by omega, Nat.pow_add]
    ac_rfl
  rw [e] at h1 h2
  have pk : 99999999 ^ (k + l + 1) = 99999999 ^ k * 99999999 ^ l * 99999999 := by rw [Nat.pow_succ, Nat.pow_add]
  have pk2 : 100000000 ^ (k + l + 1) = 100000000 ^ k * 100000000 ^ l * 100000000 := by rw [Nat.pow_succ, Nat.pow_add]
  refine ⟨(tm_in n1 n2).1, ?_, ?_⟩
  · generalize (tm x y).1 * 10 ^ ((tm x y).2 + (s + t)) = Z at h1 h2 ⊢
    generalize x.1 * 10 ^ (x.2 + s) = X at *
    generalize y.1 * 10 ^ (y.2 + t) = Y at *
    refine Nat.le_of_mul_le_mul_right (Nat.le_trans h1 (Nat.le_trans (Nat.mul_le_mul u1 u2) (Nat.le_of_eq ?_))) (by decide)
    ac_rfl
  · rw [pk, pk2]
    generalize (tm x y).1 * 10 ^ ((tm x y).2 + (s + t)) = Z at h1 h2 ⊢
    generalize x.1 * 10 ^ (x.2 + s) = X at *
    generalize y.1 * 10 ^ (y.2 + t) = Y at *
    generalize (99999999 : Nat) ^ k = Bk at *
    generalize (99999999 : Nat) ^ l = Bl at *
    generalize (100000000 : Nat) ^ k = Dk at *
    generalize (100000000 : Nat) ^ l = Dl at *
    have q := Nat.mul_le_mul (Nat.mul_le_mul d1 d2) (Nat.le_refl 99999999)
    have r := Nat.mul_le_mul h2 (Nat.le_refl (Dk * Dl))
    refine Nat.le_of_mul_le_mul_right (c := 100000000) ?_ (by omega)
    calc N * M * 100000000 * (Bk * Bl * 99999999) * 100000000 = N * 100000000 * Bk * (M * 100000000 * Bl) * 99999999 := by ac_rfl
      _ ≤ X * Dk * (Y * Dl) * 99999999 := q
      _ = X * Y * 99999999 * (Dk * Dl) := by ac_rfl
      _ ≤ Z * 10000000000000000 * (Dk * Dl) := r
      _ = Z * (Dk * Dl * 100000000) * 100000000 := by
        rw [show (10000000000000000 : Nat) = 100000000 * 100000000 from rfl]
        ac_rfl
theorem ac_p10 {k s N r : Nat} {m : Nat} (h : Ac k s (m, 0) N) : Ac (10 * k + 9) (10 * s) (p10 m) (N ^ 10) := by
  have a := ac_mul h h
  have b := ac_mul a a
  have c := ac_mul b h
  have d := ac_mul c c
  have e : N * N * (N * N) * N * (N * N * (N * N) * N) = N ^ 10 := by simp only [Nat.pow_succ, Nat.pow_zero, Nat.one_mul]; ac_rfl
  rw [e] at d
  have e1 : k + k + 1 + (k + k + 1) + 1 + k + 1 + (k + k + 1 + (k + k + 1) + 1 + k + 1) + 1 = 10 * k + 9 := by omega
  have e2 : s + s + (s + s) + s + (s + s + (s + s) + s) = 10 * s := by omega
  rw [e1, e2] at d
  exact d
theorem ac_step {k N : Nat} {x : Nat × Nat} (h : Ac k 0 x N) : Ac (10 * k + 9) 0 (lstep x) (N ^ 10) := by
  obtain ⟨n, u, d⟩ := h
  have h' : Ac k x.2 (x.1, 0) N := ⟨n, by simpa using u, by simpa using d⟩
  obtain ⟨n', u', d'⟩ := ac_p10 (r := 0) h'
  refine ⟨n', ?_, ?_⟩
  · show (p10 x.1).1 * 10 ^ (10 * x.2 + (p10 x.1).2 + 0) ≤ _
    rw [Nat.add_zero, Nat.add_comm]
    exact u'
  · show _ ≤ (p10 x.1).1 * 10 ^ (10 * x.2 + (p10 x.1).2 + 0) * _
    rw [Nat.add_zero, Nat.add_comm (10 * x.2)]
    exact d'
theorem ac_nrm {n : Nat} (h : 1 ≤ n) : Ac 1 0 (nrm n, dg10 n) n := by
  refine ⟨nrm_in h, ?_, ?_⟩
  · show nrm n * 10 ^ (dg10 n + 0) ≤ _
    rw [Nat.add_zero]
    unfold nrm
    split
    · rename_i h8
      rw [Nat.mul_assoc, ← Nat.pow_add, show 8 - dg10 n + dg10 n = 8 by omega]
      exact Nat.le_refl _
    · rename_i h8
      rw [show dg10 n = (dg10 n - 8) + 8 by omega, Nat.pow_add, show dg10 n - 8 + 8 - 8 = dg10 n - 8 by omega, ← Nat.mul_assoc]
      exact Nat.mul_le_mul (Nat.div_mul_le_self _ _) (Nat.le_refl _)
  · show _ ≤ nrm n * 10 ^ (dg10 n + 0) * _
    rw [Nat.add_zero]
    have hn := nrm_in h
    unfold nrm Nm at *
    split
    · rename_i h8
      have e : n * 10 ^ (8 - dg10 n) * 10 ^ dg10 n = n * 100000000 := by rw [Nat.mul_assoc, ← Nat.pow_add, show 8 - dg10 n + dg10 n = 8 by omega]
      rw [e]
      exact Nat.mul_le_mul (Nat.le_refl _) (by decide)
    · rename_i h8
      rw [if_neg h8] at hn
      rw [show dg10 n = (dg10 n - 8) + 8 by omega, Nat.pow_add, show dg10 n - 8 + 8 - 8 = dg10 n - 8 by omega]
      have qp : 0 < 10 ^ (dg10 n - 8) := Nat.pow_pos (by decide)
      generalize 10 ^ (dg10 n - 8) = q at *
      have h3 := Nat.div_add_mod n q
      have h4 := Nat.mod_lt n qp
      have h5 := hn.1
      generalize n / q = z at *
      have h6 : n ≤ z * q + q := by rw [Nat.mul_comm z q]; omega
      have h7 : q * 100000000 ≤ q * z := Nat.mul_le_mul_left _ h5
      have e2 : (10 : Nat) ^ 8 = 100000000 := by decide
      have e1 : z * (q * 100000000) * 100000000 = q * z * 10000000000000000 := by
        rw [← Nat.mul_assoc, Nat.mul_comm z q, Nat.mul_assoc]
      rw [Nat.mul_comm z q] at h6
      have k := f5_ n (q * z) q h6 h7
      rw [← e1] at k
      simpa using k
theorem bern : ∀ k : Nat, k ≤ 100000000 → 100000000 ^ k * (100000000 - k) ≤ 99999999 ^ k * 100000000
  | 0, _ => by simp
  | k + 1, h => by
    have ih := bern k (by omega)
    have e : ∃ m, m + k = 100000000 ∧ 100000000 - k = m ∧ 100000000 - (k + 1) = m - 1 := ⟨100000000 - k, by omega, rfl, by omega⟩
    obtain ⟨m, em, e1, e2⟩ := e
    rw [e1] at ih
    rw [e2, Nat.pow_succ, Nat.pow_succ]
    generalize (100000000 : Nat) ^ k = D at *
    generalize (99999999 : Nat) ^ k = B at *
    have h1 : 100000000 * (m - 1) ≤ m * 99999999 := by omega
    calc D * 100000000 * (m - 1) = D * (100000000 * (m - 1)) := by rw [Nat.mul_assoc]
      _ ≤ D * (m * 99999999) := Nat.mul_le_mul_left _ h1
      _ = D * m * 99999999 := by rw [Nat.mul_assoc]
      _ ≤ B * 100000000 * 99999999 := Nat.mul_le_mul_right _ ih
      _ = B * 99999999 * 100000000 := by rw [Nat.mul_right_comm]
theorem le_of_e8 {a b : Nat} (h : a * 100000000 ≤ b * 100000000) : a ≤ b := by omega
theorem lt_fin {N Dk Bk X T : Nat} (c3 : N * (Dk * 99980001) ≤ N * (Bk * 100000000)) (d : N * 100000000 * Bk ≤ X * T * Dk) (c2 : X * T * Dk < 1000000000 * T * Dk) : N * 99980001 * Dk < T * 10 * 100000000 * Dk := by
  have e1 : N * 99980001 * Dk = N * (Dk * 99980001) := by rw [Nat.mul_assoc, Nat.mul_comm 99980001]
  have e2 : N * (Bk * 100000000) = N * 100000000 * Bk := by rw [Nat.mul_comm Bk, Nat.mul_assoc]
  have e3 : T * 10 * 100000000 * Dk = 1000000000 * T * Dk := by rw [Nat.mul_assoc T, Nat.mul_comm T]
  rw [e1, e3]
  rw [e2] at c3
  exact Nat.lt_of_le_of_lt (Nat.le_trans c3 d) c2
theorem pow4 (n a e : Nat) (he : a * a * a * a = e) : (((n ^ a) ^ a) ^ a) ^ a = n ^ e := by rw [← Nat.pow_mul, ← Nat.pow_mul, ← Nat.pow_mul, ← he, Nat.mul_assoc, Nat.mul_assoc]
theorem lgd_acc {n E : Nat} (hE : 10 * 10 * 10 * 10 = E) (h : 1 ≤ n) : 10 ^ lgd n ≤ n ^ E ∧ n ^ E * 99980001 < 10 ^ (lgd n + 1) * 100000000 := by
  have a := ac_step (ac_step (ac_step (ac_step (ac_nrm h))))
  have e : (((n ^ 10) ^ 10) ^ 10) ^ 10 = n ^ E := pow4 n 10 E hE
  rw [e] at a
  obtain ⟨n1, u, d⟩ := a
  have ek : 10 * (10 * (10 * (10 * 1 + 9) + 9) + 9) + 9 = 19999 := rfl
  rw [ek] at d
  have e4 : lstep (lstep (lstep (lstep (nrm n, dg10 n)))) = lit 4 (nrm n, dg10 n) := rfl
  rw [e4] at n1 u d
  have b := bern 19999 (by omega)
  have el : lgd n = (lit 4 (nrm n, dg10 n)).2 := rfl
  rw [el]
  rw [Nat.add_zero] at u d
  generalize lit 4 (nrm n, dg10 n) = x at *
  obtain ⟨n2, n3⟩ := n1
  rw [show 10 ^ (x.2 + 1) = 10 ^ x.2 * 10 from Nat.pow_succ ..]
  generalize hT : (10 : Nat) ^ x.2 = T at *
  have hT0 : 0 < T := by rw [← hT]; exact Nat.pow_pos (by decide)
  have hpos : ∀ k : Nat, 0 < (100000000 : Nat) ^ k := fun k => Nat.pow_pos (by decide)
  have hDk := hpos 19999
  generalize (100000000 : Nat) ^ 19999 = Dk at *
  generalize (99999999 : Nat) ^ 19999 = Bk at *
  generalize n ^ E = N at *
  refine ⟨?_, ?_⟩
  · have := Nat.mul_le_mul_right T n2
    rw [Nat.mul_comm 100000000 T] at this
    exact le_of_e8 (Nat.le_trans this u)
  · have e9 : 100000000 - 19999 = 99980001 := by decide
    rw [e9] at b
    refine Nat.lt_of_mul_lt_mul_right (a := Dk) ?_
    have c1 : x.1 * T < 1000000000 * T := Nat.mul_lt_mul_of_pos_right n3 hT0
    have c2 := Nat.mul_lt_mul_of_pos_right c1 hDk
    have c3 : N * (Dk * 99980001) ≤ N * (Bk * 100000000) := Nat.mul_le_mul_left _ b
    exact lt_fin c3 d c2
end Go.Proofs.YtiaemddmkmfijaaDoor
