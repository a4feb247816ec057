/-
  OWN WORK: plain: logarithms of products, of powers of ten, and of differences that are added again.
  OWN WORK: plain: how near logarithms by tenth powers are.
-/
import Derived.Test.YtiaemddmkmfijaaGreatDoorDbA
namespace Go.Proofs.YtiaemddmkmfijaaGreatDoor
open Go Go.Own Go.Proofs
set_option maxHeartbeats 4000000
set_option maxRecDepth 20000
set_option linter.unusedSimpArgs false
set_option linter.unusedVariables false
/-- a scaled number stands for N: not above it, and not below by more than k parts of 10^8 -/
structure Ac (k s : Nat) (x : Nat × Nat) (N : Nat) : Prop where
  nm : Nm x.1
  up : x.1 * 10 ^ (x.2 + s) ≤ N * 100000000
  dn : N * 100000000 * 99999999 ^ k ≤ x.1 * 10 ^ (x.2 + s) * 100000000 ^ k
theorem f1_ (p : Nat) : p / 100000000 / 10 * 1000000000 ≤ p := by omega
theorem f2_ (p : Nat) (h : 1000000000 ≤ p / 100000000) : p * 99999999 ≤ p / 100000000 / 10 * 100000000000000000 := by
  have h3 : p ≤ 1000000000 * (p / 100000000 / 10 + 1) := by omega
  have h5 : 100000000 ≤ p / 100000000 / 10 := by omega
  generalize p / 100000000 / 10 = r at *
  have h4 : (r + 1) * 99999999 ≤ r * 100000000 := by omega
  have h6 := Nat.mul_le_mul h3 (Nat.le_refl 99999999)
  rw [Nat.mul_assoc] at h6
  have h7 := Nat.mul_le_mul (Nat.le_refl 1000000000) h4
  rw [Nat.mul_left_comm 1000000000 r] at h7
  exact Nat.le_trans h6 h7
theorem f3_ (p : Nat) : p / 100000000 * 100000000 ≤ p := by omega
theorem f4_ (p : Nat) (h : 10000000000000000 ≤ p) : p * 99999999 ≤ p / 100000000 * 10000000000000000 := by
  have h3 : p ≤ 100000000 * (p / 100000000 + 1) := by omega
  have h5 : 100000000 ≤ p / 100000000 := by omega
  generalize p / 100000000 = r at *
  have h4 : (r + 1) * 99999999 ≤ r * 100000000 := by omega
  have h6 := Nat.mul_le_mul h3 (Nat.le_refl 99999999)
  rw [Nat.mul_assoc] at h6
  have h7 := Nat.mul_le_mul (Nat.le_refl 100000000) h4
  rw [Nat.mul_left_comm 100000000 r] at h7
  exact Nat.le_trans h6 h7
theorem f5_ (n w q : Nat) (h6 : n ≤ w + q) (h7 : q * 100000000 ≤ w) : n * 100000000 * 99999999 ≤ w * 10000000000000000 := by
  have a1 : n * 99999999 ≤ (w + q) * 99999999 := Nat.mul_le_mul h6 (Nat.le_refl _)
  rw [Nat.add_mul] at a1
  have a3 : q * 99999999 ≤ w := Nat.le_trans (Nat.mul_le_mul (Nat.le_refl q) (by decide)) h7
  have a4 : w * 100000000 = w * 99999999 + w := Nat.mul_succ w 99999999
  have h4 : n * 99999999 ≤ w * 100000000 := by
    rw [a4]
    exact Nat.le_trans a1 (Nat.add_le_add_left a3 _)
  have h5 := Nat.mul_le_mul (Nat.le_refl 100000000) h4
  rw [← Nat.mul_assoc, Nat.mul_comm 100000000 n, Nat.mul_left_comm 100000000 w] at h5
  exact h5
theorem tm_near {x y : Nat × Nat} (hx : Nm x.1) (hy : Nm y.1) (u : Nat) : (tm x y).1 * 10 ^ ((tm x y).2 + u) * 100000000 ≤ x.1 * y.1 * 10 ^ (x.2 + y.2 + u) ∧ x.1 * y.1 * 10 ^ (x.2 + y.2 + u) * 99999999 ≤ (tm x y).1 * 10 ^ ((tm x y).2 + u) * 10000000000000000 := by
  obtain ⟨a1, a2⟩ := hx
  obtain ⟨b1, b2⟩ := hy
  have l : 100000000 * 100000000 ≤ x.1 * y.1 := Nat.mul_le_mul a1 b1
  rw [show (100000000 : Nat) * 100000000 = 10000000000000000 by decide] at l
  unfold tm
  generalize x.1 * y.1 = p at l ⊢
  split
  · rename_i h
    simp only
    have f1 := f1_ p
    have f2 := f2_ p h
    rw [show x.2 + y.2 + 1 + u = (x.2 + y.2 + u) + 1 by omega, Nat.pow_succ]
    generalize 10 ^ (x.2 + y.2 + u) = T
    have e1 : p / 100000000 / 10 * (T * 10) * 100000000 = (p / 100000000 / 10 * 1000000000) * T := by
      rw [Nat.mul_comm T 10, ← Nat.mul_assoc, Nat.mul_right_comm, Nat.mul_assoc (p / 100000000 / 10)]
    have e2 : p / 100000000 / 10 * (T * 10) * 10000000000000000 = (p / 100000000 / 10 * 100000000000000000) * T := by
      rw [Nat.mul_comm T 10, ← Nat.mul_assoc, Nat.mul_right_comm, Nat.mul_assoc (p / 100000000 / 10)]
    have e3 : p * T * 99999999 = (p * 99999999) * T := Nat.mul_right_comm ..
    rw [e1, e2, e3]
    exact ⟨Nat.mul_le_mul f1 (Nat.le_refl T), Nat.mul_le_mul f2 (Nat.le_refl T)⟩
  · simp only
    generalize 10 ^ (x.2 + y.2 + u) = T
    have e1 : p / 100000000 * T * 100000000 = (p / 100000000 * 100000000) * T := Nat.mul_right_comm ..
    have e2 : p / 100000000 * T * 10000000000000000 = (p / 100000000 * 10000000000000000) * T := Nat.mul_right_comm ..
    have e3 : p * T * 99999999 = (p * 99999999) * T := Nat.mul_right_comm ..
    have f1 := f3_ p
    have f2 := f4_ p l
    rw [e1, e2, e3]
    exact ⟨Nat.mul_le_mul f1 (Nat.le_refl T), Nat.mul_le_mul f2 (Nat.le_refl T)⟩
theorem ac_mul {k l s t N M : Nat} {x y : Nat × Nat} (hx : Ac k s x N) (hy : Ac l t y M) : Ac (k + l + 1) (s + t) (tm x y) (N * M) := by
  obtain ⟨n1, u1, d1⟩ := hx
  obtain ⟨n2, u2, d2⟩ := hy
  obtain ⟨h1, h2⟩ := tm_near n1 n2 (s + t)
  have e : x.1 * y.1 * 10 ^ (x.2 + y.2 + (s + t)) = (x.1 * 10 ^ (x.2 + s)) * (y.1 * 10 ^ (y.2 + t)) := by
    rw [show x.2 + y.2 + (s + t) = (x.2 + s) + (y.2 + t) by omega, Nat.pow_add]
    ac_rfl
  rw [e] at h1 h2
  have pk : 99999999 ^ (k + l + 1) = 99999999 ^ k * 99999999 ^ l * 99999999 := by rw [Nat.pow_succ, Nat.pow_add]
  have pk2 : 100000000 ^ (k + l + 1) = 100000000 ^ k * 100000000 ^ l * 100000000 := by rw [Nat.pow_succ, Nat.pow_add]
  refine ⟨(tm_in n1 n2).1, ?_, ?_⟩
  · generalize (tm x y).1 * 10 ^ ((tm x y).2 + (s + t)) = Z at h1 h2 ⊢
    generalize x.1 * 10 ^ (x.2 + s) = X at *
    generalize y.1 * 10 ^ (y.2 + t) = Y at *
    refine Nat.le_of_mul_le_mul_right (Nat.le_trans h1 (Nat.le_trans (Nat.mul_le_mul u1 u2) (Nat.le_of_eq ?_))) (by decide)
    ac_rfl
  · rw [pk, pk2]
    generalize (tm x y).1 * 10 ^ ((tm x y).2 + (s + t)) = Z at h1 h2 ⊢
    generalize x.1 * 10 ^ (x.2 + s) = X at *
    generalize y.1 * 10 ^ (y.2 + t) = Y at *
    generalize (99999999 : Nat) ^ k = Bk at *
    generalize (99999999 : Nat) ^ l = Bl at *
    generalize (100000000 : Nat) ^ k = Dk at *
    generalize (100000000 : Nat) ^ l = Dl at *
    have q := Nat.mul_le_mul (Nat.mul_le_mul d1 d2) (Nat.le_refl 99999999)
    have r := Nat.mul_le_mul h2 (Nat.le_refl (Dk * Dl))
    refine Nat.le_of_mul_le_mul_right (c := 100000000) ?_ (by omega)
    calc N * M * 100000000 * (Bk * Bl * 99999999) * 100000000 = N * 100000000 * Bk * (M * 100000000 * Bl) * 99999999 := by ac_rfl
      _ ≤ X * Dk * (Y * Dl) * 99999999 := q
      _ = X * Y * 99999999 * (Dk * Dl) := by ac_rfl
      _ ≤ Z * 10000000000000000 * (Dk * Dl) := r
      _ = Z * (Dk * Dl * 100000000) * 100000000 := by
        rw [show (10000000000000000 : Nat) = 100000000 * 100000000 from rfl]
        ac_rfl
theorem ac_p10 {k s N r : Nat} {m : Nat} (h : Ac k s (m, 0) N) : Ac (10 * k + 9) (10 * s) (p10 m) (N ^ 10) := by
  have a := ac_mul h h
  have b := ac_mul a a
  have c := ac_mul b h
  have d := ac_mul c c
  have e : N * N * (N * N) * N * (N * N * (N * N) * N) = N ^ 10 := by simp only [Nat.pow_succ, Nat.pow_zero, Nat.one_mul]; ac_rfl
  rw [e] at d
  have e1 : k + k + 1 + (k + k + 1) + 1 + k + 1 + (k + k + 1 + (k + k + 1) + 1 + k + 1) + 1 = 10 * k + 9 := by omega
  have e2 : s + s + (s + s) + s + (s + s + (s + s) + s) = 10 * s := by omega
  rw [e1, e2] at d
  exact d
theorem ac_step {k N : Nat} {x : Nat × Nat} (h : Ac k 0 x N) : Ac (10 * k + 9) 0 (lstep x) (N ^ 10) := by
  obtain ⟨n, u, d⟩ := h
  have h' : Ac k x.2 (x.1, 0) N := ⟨n, by simpa using u, by simpa using d⟩
  obtain ⟨n', u', d'⟩ := ac_p10 (r := 0) h'
  refine ⟨n', ?_, ?_⟩
  · show (p10 x.1).1 * 10 ^ (10 * x.2 + (p10 x.1).2 + 0) ≤ _
    rw [Nat.add_zero, Nat.add_comm]
    exact u'
  · show _ ≤ (p10 x.1).1 * 10 ^ (10 * x.2 + (p10 x.1).2 + 0) * _
    rw [Nat.add_zero, Nat.add_comm (10 * x.2)]
    exact d'
theorem ac_nrm {n : Nat} (h : 1 ≤ n) : Ac 1 0 (nrm n, dg10 n) n := by
  refine ⟨nrm_in h, ?_, ?_⟩
  · show nrm n * 10 ^ (dg10 n + 0) ≤ _
    rw [Nat.add_zero]
    unfold nrm
    split
    · rename_i h8
      rw [Nat.mul_assoc, ← Nat.pow_add, show 8 - dg10 n + dg10 n = 8 by omega]
      exact Nat.le_refl _
    · rename_i h8
      rw [show dg10 n = (dg10 n - 8) + 8 by omega, Nat.pow_add, show dg10 n - 8 + 8 - 8 = dg10 n - 8 by omega, ← Nat.mul_assoc]
      exact Nat.mul_le_mul (Nat.div_mul_le_self _ _) (Nat.le_refl _)
  · show _ ≤ nrm n * 10 ^ (dg10 n + 0) * _
    rw [Nat.add_zero]
    have hn := nrm_in h
    unfold nrm Nm at *
    split
    · rename_i h8
      have e : n * 10 ^ (8 - dg10 n) * 10 ^ dg10 n = n * 100000000 := by rw [Nat.mul_assoc, ← Nat.pow_add, show 8 - dg10 n + dg10 n = 8 by omega]
      rw [e]
      exact Nat.mul_le_mul (Nat.le_refl _) (by decide)
    · rename_i h8
      rw [if_neg h8] at hn
      rw [show dg10 n = (dg10 n - 8) + 8 by omega, Nat.pow_add, show dg10 n - 8 + 8 - 8 = dg10 n - 8 by omega]
      have qp : 0 < 10 ^ (dg10 n - 8) := Nat.pow_pos (by decide)
      generalize 10 ^ (dg10 n - 8) = q at *
      have h3 := Nat.div_add_mod n q
      have h4 := Nat.mod_lt n qp
      have h5 := hn.1
      generalize n / q = z at *
      have h6 : n ≤ z * q + q := by rw [Nat.mul_comm z q]; omega
      have h7 : q * 100000000 ≤ q * z := Nat.mul_le_mul_left _ h5
      have e2 : (10 : Nat) ^ 8 = 100000000 := by decide
      have e1 : z * (q * 100000000) * 100000000 = q * z * 10000000000000000 := by
        rw [← Nat.mul_assoc, Nat.mul_comm z q, Nat.mul_assoc]
      rw [Nat.mul_comm z q] at h6
      have k := f5_ n (q * z) q h6 h7
      rw [← e1] at k
      simpa using k
theorem bern : ∀ k : Nat, k ≤ 100000000 → 100000000 ^ k * (100000000 - k) ≤ 99999999 ^ k * 100000000
  | 0, _ => by simp
  | k + 1, h => by
    have ih := bern k (by omega)
    have e : ∃ m, m + k = 100000000 ∧ 100000000 - k = m ∧ 100000000 - (k + 1) = m - 1 := ⟨100000000 - k, by omega, rfl, by omega⟩
    obtain ⟨m, em, e1, e2⟩ := e
    rw [e1] at ih
    rw [e2, Nat.pow_succ, Nat.pow_succ]
    generalize (100000000 : Nat) ^ k = D at *
    generalize (99999999 : Nat) ^ k = B at *
    have h1 : 100000000 * (m - 1) ≤ m * 99999999 := by omega
    calc D * 100000000 * (m - 1) = D * (100000000 * (m - 1)) := by rw [Nat.mul_assoc]
      _ ≤ D * (m * 99999999) := Nat.mul_le_mul_left _ h1
      _ = D * m * 99999999 := by rw [Nat.mul_assoc]
      _ ≤ B * 100000000 * 99999999 := Nat.mul_le_mul_right _ ih
      _ = B * 99999999 * 100000000 := by rw [Nat.mul_right_comm]
theorem le_of_e8 {a b : Nat} (h : a * 100000000 ≤ b * 100000000) : a ≤ b := by omega
theorem lt_fin {N Dk Bk X T : Nat} (c3 : N * (Dk * 99980001) ≤ N * (Bk * 100000000)) (d : N * 100000000 * Bk ≤ X * T * Dk) (c2 : X * T * Dk < 1000000000 * T * Dk) : N * 99980001 * Dk < T * 10 * 100000000 * Dk := by
  have e1 : N * 99980001 * Dk = N * (Dk * 99980001) := by rw [Nat.mul_assoc, Nat.mul_comm 99980001]
  have e2 : N * (Bk * 100000000) = N * 100000000 * Bk := by rw [Nat.mul_comm Bk, Nat.mul_assoc]
  have e3 : T * 10 * 100000000 * Dk = 1000000000 * T * Dk := by rw [Nat.mul_assoc T, Nat.mul_comm T]
  rw [e1, e3]
  rw [e2] at c3
  exact Nat.lt_of_le_of_lt (Nat.le_trans c3 d) c2
theorem pow4 (n a e : Nat) (he : a * a * a * a = e) : (((n ^ a) ^ a) ^ a) ^ a = n ^ e := by rw [← Nat.pow_mul, ← Nat.pow_mul, ← Nat.pow_mul, ← he, Nat.mul_assoc, Nat.mul_assoc]
theorem lgd_acc {n E : Nat} (hE : 10 * 10 * 10 * 10 = E) (h : 1 ≤ n) : 10 ^ lgd n ≤ n ^ E ∧ n ^ E * 99980001 < 10 ^ (lgd n + 1) * 100000000 := by
  have a := ac_step (ac_step (ac_step (ac_step (ac_nrm h))))
  have e : (((n ^ 10) ^ 10) ^ 10) ^ 10 = n ^ E := pow4 n 10 E hE
  rw [e] at a
  obtain ⟨n1, u, d⟩ := a
  have ek : 10 * (10 * (10 * (10 * 1 + 9) + 9) + 9) + 9 = 19999 := rfl
  rw [ek] at d
  have e4 : lstep (lstep (lstep (lstep (nrm n, dg10 n)))) = lit 4 (nrm n, dg10 n) := rfl
  rw [e4] at n1 u d
  have b := bern 19999 (by omega)
  have el : lgd n = (lit 4 (nrm n, dg10 n)).2 := rfl
  rw [el]
  rw [Nat.add_zero] at u d
  generalize lit 4 (nrm n, dg10 n) = x at *
  obtain ⟨n2, n3⟩ := n1
  rw [show 10 ^ (x.2 + 1) = 10 ^ x.2 * 10 from Nat.pow_succ ..]
  generalize hT : (10 : Nat) ^ x.2 = T at *
  have hT0 : 0 < T := by rw [← hT]; exact Nat.pow_pos (by decide)
  have hpos : ∀ k : Nat, 0 < (100000000 : Nat) ^ k := fun k => Nat.pow_pos (by decide)
  have hDk := hpos 19999
  generalize (100000000 : Nat) ^ 19999 = Dk at *
  generalize (99999999 : Nat) ^ 19999 = Bk at *
  generalize n ^ E = N at *
  refine ⟨?_, ?_⟩
  · have := Nat.mul_le_mul_right T n2
    rw [Nat.mul_comm 100000000 T] at this
    exact le_of_e8 (Nat.le_trans this u)
  · have e9 : 100000000 - 19999 = 99980001 := by decide
    rw [e9] at b
    refine Nat.lt_of_mul_lt_mul_right (a := Dk) ?_
    have c1 : x.1 * T < 1000000000 * T := Nat.mul_lt_mul_of_pos_right n3 hT0
    have c2 := Nat.mul_lt_mul_of_pos_right c1 hDk
    have c3 : N * (Dk * 99980001) ≤ N * (Bk * 100000000) := Nat.mul_le_mul_left _ b
    exact lt_fin c3 d c2
theorem dg10_unique {n d : Nat} (h : 1 ≤ n) (h1 : 10 ^ d ≤ n) (h2 : n < 10 ^ (d + 1)) : dg10 n = d := by
  obtain ⟨a, b⟩ := dg10_in h
  have c1 := (Nat.pow_lt_pow_iff_right (a := 10) (by omega)).1 (show 10 ^ dg10 n < 10 ^ (d + 1) by omega)
  have c2 := (Nat.pow_lt_pow_iff_right (a := 10) (by omega)).1 (show 10 ^ d < 10 ^ (dg10 n + 1) by omega)
  omega
theorem dg10_ten {n : Nat} (h : 1 ≤ n) : dg10 (10 * n) = dg10 n + 1 := by
  obtain ⟨a, b⟩ := dg10_in h
  refine dg10_unique (by omega) ?_ ?_
  · rw [Nat.pow_succ]; omega
  · rw [Nat.pow_succ]; omega
theorem nrm_ten {n : Nat} (h : 1 ≤ n) : nrm (10 * n) = nrm n := by
  unfold nrm
  rw [dg10_ten h]
  by_cases h7 : dg10 n < 8
  · rw [if_pos (by omega), if_pos (by omega), show 8 - dg10 n = (8 - (dg10 n + 1)) + 1 by omega, Nat.pow_succ, Nat.mul_comm 10 n, Nat.mul_assoc, Nat.mul_comm 10]
  · by_cases h8 : dg10 n = 8
    · rw [h8]
      simp
    · rw [if_neg (by omega), if_neg (by omega), show dg10 n + 1 - 8 = (dg10 n - 8) + 1 by omega, Nat.pow_succ, Nat.mul_comm 10 n, Nat.mul_div_mul_right _ _ (by omega)]
theorem lstep_up (m d k : Nat) : lstep (m, d + k) = ((lstep (m, d)).1, (lstep (m, d)).2 + 10 * k) := by
  unfold lstep
  simp only
  congr 1
  omega
theorem lgd_ten {n : Nat} (h : 1 ≤ n) : lgd (10 * n) = lgd n + 10000 := by
  unfold lgd
  rw [dg10_ten h, nrm_ten h]
  have e : ∀ x : Nat × Nat, lit 4 x = lstep (lstep (lstep (lstep x))) := fun _ => rfl
  rw [e, e, lstep_up]
  generalize lstep (nrm n, dg10 n) = a
  obtain ⟨a1, a2⟩ := a
  simp only
  rw [lstep_up]
  generalize lstep (a1, a2) = b
  obtain ⟨b1, b2⟩ := b
  simp only
  rw [lstep_up]
  generalize lstep (b1, b2) = c
  obtain ⟨c1, c2⟩ := c
  simp only
  rw [lstep_up]
theorem lgd_tens {n : Nat} (h : 1 ≤ n) : ∀ k, lgd (10 ^ k * n) = lgd n + 10000 * k
  | 0 => by simp
  | k + 1 => by
    have := lgd_ten (n := 10 ^ k * n) (Nat.mul_pos (Nat.pow_pos (by decide)) h)
    rw [Nat.pow_succ, Nat.mul_comm (10 ^ k) 10, Nat.mul_assoc, this, lgd_tens h k]
    omega
theorem lgd_1 : lgd 1 = 0 := by decide +kernel
theorem lgd_2 : lgd 2 = 3010 := by decide +kernel
theorem lgd_hi : lgd 10004 ≤ 40002 := by decide +kernel
theorem lgd_lo : 39998 ≤ lgd 9996 := by decide +kernel
theorem lgd_e9 {n : Nat} (h : 1 ≤ n) : lgd (1000000000 * n) = lgd n + 90000 := lgd_tens h 9
theorem big3 : ∃ E : Nat, 10 * 10 * 10 * 10 = E ∧ Nat.ble (20 * 10000 ^ E) (10003 ^ E) = true := ⟨10000, rfl, by kernel_rfl⟩
theorem acc_E : ∃ E : Nat, (∀ n : Nat, 1 ≤ n → 10 ^ lgd n ≤ n ^ E ∧ n ^ E * 99980001 < 10 ^ (lgd n + 1) * 100000000) ∧ 20 * 10000 ^ E ≤ 10003 ^ E := by
  obtain ⟨E, hE, hb⟩ := big3
  exact ⟨E, fun _ h => lgd_acc hE h, Nat.le_of_ble_eq_true hb⟩
theorem lgd_mul_le {x y z : Nat} (hx : 1 ≤ x) (hy : 1 ≤ y) (h : x * y ≤ z) : lgd x + lgd y ≤ lgd z + 1 := by
  obtain ⟨E, aE, gE⟩ := acc_E
  have hz : 1 ≤ z := Nat.le_trans (Nat.mul_pos hx hy) h
  have ax := (aE _ hx).1
  have ay := (aE _ hy).1
  have az := (aE _ hz).2
  refine Classical.byContradiction fun k => ?_
  have p1 : 10 ^ lgd x * 10 ^ lgd y ≤ z ^ E := Nat.le_trans (Nat.mul_le_mul ax ay) (by rw [← Nat.mul_pow]; exact Nat.pow_le_pow_left h _)
  have p2 : 10 ^ (lgd z + 1 + 1) ≤ 10 ^ lgd x * 10 ^ lgd y := by rw [← Nat.pow_add]; exact Nat.pow_le_pow_right (by omega) (by omega)
  rw [Nat.pow_succ] at p2
  have t0 : 0 < 10 ^ (lgd z + 1) := Nat.pow_pos (by decide)
  generalize 10 ^ (lgd z + 1) = T at *
  generalize 10 ^ lgd x * 10 ^ lgd y = X at *
  generalize z ^ E = Z at *
  omega
theorem up2 {E : Nat} (aE : ∀ n : Nat, 1 ≤ n → 10 ^ lgd n ≤ n ^ E ∧ n ^ E * 99980001 < 10 ^ (lgd n + 1) * 100000000) {x y : Nat} (hx : 1 ≤ x) (hy : 1 ≤ y) : (x * y) ^ E * 99 < 10 ^ (lgd x + lgd y + 2) * 100 := by
  have ax := (aE _ hx).2
  have ay := (aE _ hy).2
  have e : 10 ^ (lgd x + lgd y + 2) = 10 ^ (lgd x + 1) * 10 ^ (lgd y + 1) := by rw [← Nat.pow_add, show lgd x + 1 + (lgd y + 1) = lgd x + lgd y + 2 by omega]
  have tx : 0 < 10 ^ (lgd x + 1) := Nat.pow_pos (by decide)
  have ty : 0 < 10 ^ (lgd y + 1) := Nat.pow_pos (by decide)
  rw [e, Nat.mul_pow]
  generalize 10 ^ (lgd x + 1) = T at *
  generalize 10 ^ (lgd y + 1) = U at *
  generalize x ^ E = X at *
  generalize y ^ E = Y at *
  have m := Nat.mul_lt_mul'' ax ay
  have e1 : X * 99980001 * (Y * 99980001) = X * Y * 9996000599960001 := by
    rw [show (9996000599960001 : Nat) = 99980001 * 99980001 from rfl]
    ac_rfl
  have e2 : T * 100000000 * (U * 100000000) = T * U * 10000000000000000 := by
    rw [show (10000000000000000 : Nat) = 100000000 * 100000000 from rfl]
    ac_rfl
  rw [e1, e2] at m
  generalize X * Y = W at *
  generalize T * U = V at *
  omega
theorem lgd_le_mul {x y z : Nat} (hx : 1 ≤ x) (hy : 1 ≤ y) (hz : 1 ≤ z) (h : z ≤ x * y) : lgd z ≤ lgd x + lgd y + 2 := by
  obtain ⟨E, aE, gE⟩ := acc_E
  have az := (aE _ hz).1
  have u := up2 aE hx hy
  refine Classical.byContradiction fun k => ?_
  have p1 : 10 ^ (lgd x + lgd y + 2 + 1) ≤ 10 ^ lgd z := Nat.pow_le_pow_right (by omega) (by omega)
  have p2 : z ^ E ≤ (x * y) ^ E := Nat.pow_le_pow_left h _
  rw [Nat.pow_succ] at p1
  have t0 : 0 < 10 ^ (lgd x + lgd y + 2) := Nat.pow_pos (by decide)
  generalize 10 ^ (lgd x + lgd y + 2) = T at *
  generalize 10 ^ lgd z = V at *
  generalize z ^ E = Z at *
  generalize (x * y) ^ E = W at *
  omega
theorem cmp_up {x u m : Nat} (hx : 1 ≤ x) (hu : 1 ≤ u) (hm : 1 ≤ m) (h : lgd x + lgd u + 1 ≤ lgd m) : x * u * 10000 ≤ 10003 * m := by
  obtain ⟨E, aE, gE⟩ := acc_E
  refine Classical.byContradiction fun k => ?_
  have a := up2 aE hx hu
  have b := (aE _ hm).1
  have p1 : 10 ^ (lgd x + lgd u + 1 + 1) ≤ 10 ^ (lgd m + 1) := Nat.pow_le_pow_right (by omega) (by omega)
  rw [Nat.pow_succ 10 (lgd m)] at p1
  have q1 : (10003 * m) ^ E ≤ (x * u * 10000) ^ E := Nat.pow_le_pow_left (by omega) _
  rw [Nat.mul_pow, Nat.mul_pow (x * u)] at q1
  have g := gE
  have k0 : 0 < (10000 : Nat) ^ E := Nat.pow_pos (by decide)
  have m0 : 0 < m ^ E := Nat.pow_pos hm
  generalize (10000 : Nat) ^ E = K at *
  generalize (10003 : Nat) ^ E = K3 at *
  generalize (x * u) ^ E = X at *
  generalize m ^ E = M at *
  have q2 : 20 * K * M ≤ X * K := Nat.le_trans (Nat.mul_le_mul_right _ g) q1
  have q3 : 20 * M ≤ X := Nat.le_of_mul_le_mul_right (by rw [Nat.mul_right_comm]; exact q2) k0
  generalize 10 ^ (lgd x + lgd u + 1 + 1) = T at *
  generalize 10 ^ lgd m = V at *
  omega
theorem cmp_dn {x u m : Nat} (hx : 1 ≤ x) (hu : 1 ≤ u) (hm : 1 ≤ m) (h : lgd m ≤ lgd x + lgd u) : 10000 * m ≤ x * u * 10003 := by
  obtain ⟨E, aE, gE⟩ := acc_E
  refine Classical.byContradiction fun k => ?_
  have a := (aE _ hx).1
  have a2 := (aE _ hu).1
  have b := (aE _ hm).2
  have p1 : 10 ^ lgd m ≤ 10 ^ lgd x * 10 ^ lgd u := by rw [← Nat.pow_add]; exact Nat.pow_le_pow_right (by omega) h
  have p2 : 10 ^ lgd x * 10 ^ lgd u ≤ (x * u) ^ E := by rw [Nat.mul_pow]; exact Nat.mul_le_mul a a2
  rw [Nat.pow_succ] at b
  have q1 : (x * u * 10003) ^ E ≤ (10000 * m) ^ E := Nat.pow_le_pow_left (by omega) _
  rw [Nat.mul_pow, Nat.mul_pow 10000] at q1
  have g := gE
  have k0 : 0 < (10000 : Nat) ^ E := Nat.pow_pos (by decide)
  have x0 : 0 < (x * u) ^ E := Nat.pow_pos (Nat.mul_pos hx hu)
  generalize (10000 : Nat) ^ E = K at *
  generalize (10003 : Nat) ^ E = K3 at *
  generalize (x * u) ^ E = X at *
  generalize m ^ E = M at *
  have q2 : X * (20 * K) ≤ K * M := Nat.le_trans (Nat.mul_le_mul_left _ g) q1
  have q3 : 20 * X ≤ M := Nat.le_of_mul_le_mul_left (c := K) (by rw [show K * (20 * X) = X * (20 * K) by ac_rfl]; exact q2) k0
  generalize 10 ^ lgd x * 10 ^ lgd u = T at *
  generalize 10 ^ lgd m = V at *
  omega
/-- what is taken away and added again: the rest is the greater one -/
theorem again_a {e p u q : Nat} (he : e < 90000) (hp : 1 ≤ p) (hu : 1 ≤ u) (hs : u + p = 1000000000) (p1 : e ≤ lgd p) (p2 : 2 ≤ p → lgd (p - 1) < e) (hl : e ≤ lgd u) (hl2 : lgd u ≤ 90000) (hq : 1 ≤ q) (q1 : 90000 + e ≤ lgd q + lgd u) (q2 : 2 ≤ q → lgd (q - 1) + lgd u < 90000 + e) :
    lgd u + lgd (1000000000 + q) ≤ 180005 ∧ 179995 ≤ lgd u + lgd (1000000000 + q) := by
  have z1 : lgd (100000000000000 * 10004) = lgd 10004 + 10000 * 14 := lgd_tens (n := 10004) (by omega) 14
  have z2 : lgd (100000000000000 * 9996) = lgd 9996 + 10000 * 14 := lgd_tens (n := 9996) (by omega) 14
  have hi := lgd_hi
  have lo := lgd_lo
  have eS : u * (1000000000 + q) = 1000000000 * u + q * u := by rw [Nat.mul_add, Nat.mul_comm u, Nat.mul_comm u]
  constructor
  · have hw : (q - 1) * u * 10000 ≤ 10003 * (1000000000 * p) := by
      by_cases c : 2 ≤ q
      · refine cmp_up (by omega) hu (by omega) ?_
        have := q2 c
        rw [lgd_e9 hp]
        omega
      · rw [show q - 1 = 0 by omega]; simp
    have hq' : q * u = (q - 1) * u + u := by
      obtain ⟨r, rfl⟩ : ∃ r, q = r + 1 := ⟨q - 1, by omega⟩
      rw [Nat.add_sub_cancel, Nat.succ_mul]
    have := lgd_mul_le hu (show 1 ≤ 1000000000 + q by omega) (show u * (1000000000 + q) ≤ 100000000000000 * 10004 by rw [eS, hq']; generalize (q - 1) * u = w at *; omega)
    omega
  · have hw : 10000 * (1000000000 * (p - 1)) ≤ q * u * 10003 := by
      by_cases c : 2 ≤ p
      · refine cmp_dn hq hu (by omega) ?_
        have := p2 c
        rw [lgd_e9 (by omega)]
        omega
      · rw [show p - 1 = 0 by omega]; simp
    have := lgd_le_mul hu (show 1 ≤ 1000000000 + q by omega) (by omega) (show 100000000000000 * 9996 ≤ u * (1000000000 + q) by rw [eS]; generalize q * u = w at *; omega)
    omega
/-- .. and where it is the smaller one -/
theorem again_b {e p u q : Nat} (he : e < 90000) (hp : 1 ≤ p) (hu : 1 ≤ u) (hs : u + p = 1000000000) (p1 : e ≤ lgd p) (p2 : 2 ≤ p → lgd (p - 1) < e) (hl : lgd u < e) (hq : 1 ≤ q) (q0 : q ≤ 1000000000) (q1 : 90000 + lgd u ≤ lgd q + e) (q2 : 2 ≤ q → lgd (q - 1) + e < 90000 + lgd u) :
    e + lgd (1000000000 + q) ≤ 180005 ∧ 179995 ≤ e + lgd (1000000000 + q) := by
  have z1 : lgd (100000000000000 * 10004) = lgd 10004 + 10000 * 14 := lgd_tens (n := 10004) (by omega) 14
  have z2 : lgd (100000000000000 * 9996) = lgd 9996 + 10000 * 14 := lgd_tens (n := 9996) (by omega) 14
  have hi := lgd_hi
  have lo := lgd_lo
  have up : u < p := Classical.byContradiction fun k => by
    have := lgd_mono hp (show p ≤ u by omega)
    omega
  have p2' := p2 (by omega)
  obtain ⟨r, rfl⟩ : ∃ r, q = r + 1 := ⟨q - 1, by omega⟩
  obtain ⟨s, rfl⟩ : ∃ s, p = s + 1 := ⟨p - 1, by omega⟩
  rw [Nat.add_sub_cancel] at p2' q2
  constructor
  · have hw : r * s * 10000 ≤ 10003 * (1000000000 * u) := by
      by_cases c : 2 ≤ r + 1
      · refine cmp_up (by omega) (by omega) (by omega) ?_
        have := q2 c
        rw [lgd_e9 hu]
        omega
      · rw [show r = 0 by omega]; simp
    have eS : (s + 1) * (1000000000 + (r + 1)) = 1000000000 * (s + 1) + (r * s + r + s + 1) := by
      rw [Nat.mul_add, Nat.mul_comm (s + 1) 1000000000, Nat.add_mul s 1, Nat.mul_add s, Nat.mul_comm s r]
      omega
    have := lgd_mul_le (show 1 ≤ s + 1 by omega) (show 1 ≤ 1000000000 + (r + 1) by omega) (show (s + 1) * (1000000000 + (r + 1)) ≤ 100000000000000 * 10004 by rw [eS]; generalize r * s = w at *; omega)
    omega
  · have hw : 10000 * (1000000000 * u) ≤ (r + 1) * (s + 1) * 10003 := by
      refine cmp_dn hq (by omega) (by omega) ?_
      rw [lgd_e9 hu]
      omega
    have e3 : (r + 1) * (s + 1) = r * s + r + s + 1 := by
      rw [Nat.add_mul, Nat.mul_add]
      omega
    have eS : s * (1000000000 + (r + 1)) = 1000000000 * s + (r * s + s) := by
      rw [Nat.mul_add, Nat.mul_comm s 1000000000, Nat.mul_add, Nat.mul_comm s r]
      omega
    rw [e3] at hw
    have := lgd_le_mul (show 1 ≤ s by omega) (show 1 ≤ 1000000000 + (r + 1) by omega) (by omega) (show 100000000000000 * 9996 ≤ s * (1000000000 + (r + 1)) by rw [eS]; generalize r * s = w at *; omega)
    omega
end Go.Proofs.YtiaemddmkmfijaaGreatDoor
