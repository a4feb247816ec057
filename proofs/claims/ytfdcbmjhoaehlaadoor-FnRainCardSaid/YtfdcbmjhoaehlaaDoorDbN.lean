/-
  OWN WORK: rain, plain: what falls on a way grows with the rate.
-/
import Derived.Test.YtfdcbmjhoaehlaaDoorDbL
namespace Go.Proofs.YtfdcbmjhoaehlaaDoor
open Go Go.Own Go.Proofs
set_option maxHeartbeats 4000000
set_option maxRecDepth 20000
set_option linter.unusedSimpArgs false
set_option linter.unusedVariables false
theorem pwX_in (v : Int) : 0 ≤ pwX v ∧ pwX v ≤ 1000000000000000000 := by
  have := (pw_is v).1
  unfold pwX
  split <;> omega
theorem lgX_mono {x y : Int} (h : x ≤ y) : lgX x ≤ lgX y := by
  unfold lgX
  by_cases c : x < 1
  · rw [if_pos c]
    split
    · omega
    · unfold lgI
      omega
  · rw [if_neg c, if_neg (by omega)]
    exact lgI_mono (by omega) h
theorem lgX_in {x : Int} (h : x ≤ 200) : 0 ≤ lgX x ∧ lgX x < 30000 := by
  unfold lgX
  by_cases c : x < 1
  · rw [if_pos c]; omega
  · rw [if_neg c]
    have a1 := lgI_in (x := x) (by omega) (by omega)
    have a2 := lgI_up (x := x) 3 (by omega) (by show x < 1000; omega)
    omega
/-- the nearest quotient -/
def IsDrN (M n d : Int) : Prop := 2 * (M * d - n) ≤ M ∧ -M ≤ 2 * (M * d - n)
theorem abX_is {n : Int} (h1 : -9223372036854775807 ≤ n) (h2 : n ≤ 9223372036854775807) : abX n = if 0 ≤ n then n else -n := by
  have hw : IntKind.i64.wrap (0 - n) = -n := (wrap64 (by omega) (by omega)).trans (by omega)
  unfold abX
  rw [hw]
  split <;> omega
theorem drX_is {n m : Int} (hm : 0 < m) (hm2 : m ≤ 1000000000000000) (h1 : -4000000000000000000 ≤ n) (h2 : n ≤ 4000000000000000000) : IsDrN m n (drX n m) := by
  have ht : -m < n.tmod m ∧ n.tmod m < m ∧ (0 ≤ n → 0 ≤ n.tmod m) ∧ (n < 0 → n.tmod m ≤ 0) := by
    have a1 := Int.tmod_lt_of_pos n hm
    by_cases hn : 0 ≤ n
    · have a2 := Int.tmod_nonneg m hn
      exact ⟨by omega, a1, fun _ => a2, fun h => by omega⟩
    · have a3 := Int.tmod_nonneg (a := -n) m (by omega)
      have a4 := Int.tmod_lt_of_pos (-n) hm
      rw [Int.neg_tmod] at a3 a4
      exact ⟨by omega, a1, fun h => by omega, fun _ => by omega⟩
  have hq : -4000000000000000000 ≤ n.tdiv m ∧ n.tdiv m ≤ 4000000000000000000 := by
    have key : ∀ a : Int, 0 ≤ a → a ≤ 4000000000000000000 → 0 ≤ a.tdiv m ∧ a.tdiv m ≤ 4000000000000000000 := fun a h0 h1 => by
      refine ⟨Int.tdiv_nonneg h0 (by omega), ?_⟩
      have := Int.tdiv_le_self m h0
      omega
    by_cases hn : 0 ≤ n
    · have := key n hn h2; omega
    · have := key (-n) (by omega) (by omega)
      rw [Int.neg_tdiv] at this
      omega
  have e0 := Int.mul_tdiv_add_tmod n m
  have w1 : IntKind.i64.wrap (n.tdiv m) = n.tdiv m := wrap64 (by omega) (by omega)
  have w3 : IntKind.i64.wrap (n.tdiv m + 1) = n.tdiv m + 1 := wrap64 (by omega) (by omega)
  have w4 : IntKind.i64.wrap (n.tdiv m - 1) = n.tdiv m - 1 := wrap64 (by omega) (by omega)
  have am : abX m = m := by rw [abX_is (by omega) (by omega), if_pos (by omega)]
  have ar := abX_is (n := n.tmod m) (by omega) (by omega)
  have hr : (0 ≤ n.tmod m → abX (n.tmod m) = n.tmod m) ∧ (n.tmod m < 0 → abX (n.tmod m) = -(n.tmod m)) := ⟨fun h => by rw [ar, if_pos h], fun h => by rw [ar, if_neg (by omega)]⟩
  have w2 : IntKind.i64.wrap (m - abX (n.tmod m)) = m - abX (n.tmod m) := wrap64 (by omega) (by omega)
  have hmn : ¬ m < 0 := by omega
  unfold IsDrN drX
  rw [w1, am, w2, w3, w4]
  simp only [if_neg hmn]
  generalize abX (n.tmod m) = s at *
  generalize n.tmod m = r at *
  generalize n.tdiv m = q at *
  have e1 : m * (q - 1) = m * q - m := by grind
  have e2 : m * (q + 1) = m * q + m := by grind
  by_cases c1 : m - s ≤ s
  · by_cases c2 : n < 0
    · simp only [if_pos c1, if_pos c2, e1]
      generalize m * q = mq at *
      omega
    · simp only [if_pos c1, if_neg c2, e2]
      generalize m * q = mq at *
      omega
  · simp only [if_neg c1]
    generalize m * q = mq at *
    omega
theorem drN_up {M n d k : Int} (h : IsDrN M n d) (hM : 0 < M) (hn : n ≤ M * k) : d ≤ k := by
  refine Classical.byContradiction fun c => ?_
  have h1 : M * (k + 1) ≤ M * d := Int.mul_le_mul_of_nonneg_left (by omega) (by omega)
  have e : M * (k + 1) = M * k + M := by grind
  unfold IsDrN at h
  omega
theorem drN_dn {M n d k : Int} (h : IsDrN M n d) (hM : 0 < M) (hn : M * k ≤ n) : k ≤ d := by
  refine Classical.byContradiction fun c => ?_
  have h1 : M * d ≤ M * (k - 1) := Int.mul_le_mul_of_nonneg_left (by omega) (by omega)
  have e : M * (k - 1) = M * k - M := by grind
  unfold IsDrN at h
  omega
/-- a blend lies between its ends -/
theorem blX_in {x0 y0 x1 y1 x lo hi : Int} (hx0 : 0 ≤ x0) (hx1 : x1 ≤ 1000000) (hlo : -1000000 ≤ lo) (hhi : hi ≤ 1000000) (h0 : lo ≤ y0 ∧ y0 ≤ hi) (h1 : lo ≤ y1 ∧ y1 ≤ hi) : lo ≤ blX x0 y0 x1 y1 x ∧ blX x0 y0 x1 y1 x ≤ hi := by
  unfold blX
  split
  · exact h0
  · rename_i c1
    split
    · exact h1
    · rename_i c2
      have m1 : 0 < x1 - x0 := by omega
      have w1 : IntKind.i64.wrap (x1 - x0) = x1 - x0 := wrap64 (by omega) (by omega)
      have w2 : IntKind.i64.wrap (y1 - y0) = y1 - y0 := wrap64 (by omega) (by omega)
      have w3 : IntKind.i64.wrap (x - x0) = x - x0 := wrap64 (by omega) (by omega)
      have b1 : (y1 - y0) * (x - x0) ≤ 2000000 * (x - x0) := Int.mul_le_mul_of_nonneg_right (by omega) (by omega)
      have b2 : -2000000 * (x - x0) ≤ (y1 - y0) * (x - x0) := Int.mul_le_mul_of_nonneg_right (by omega) (by omega)
      have w4 : IntKind.i64.wrap ((y1 - y0) * (x - x0)) = (y1 - y0) * (x - x0) := wrap64 (by omega) (by omega)
      rw [w1, w2, w3, w4]
      have hd := drX_is (n := (y1 - y0) * (x - x0)) (m := x1 - x0) m1 (by omega) (by omega) (by omega)
      have key : lo - y0 ≤ drX ((y1 - y0) * (x - x0)) (x1 - x0) ∧ drX ((y1 - y0) * (x - x0)) (x1 - x0) ≤ hi - y0 := by
        by_cases c : y0 ≤ y1
        · have p1 : 0 ≤ (y1 - y0) * (x - x0) := Int.mul_nonneg (by omega) (by omega)
          have p2 : (y1 - y0) * (x - x0) ≤ (y1 - y0) * (x1 - x0) := Int.mul_le_mul_of_nonneg_left (by omega) (by omega)
          have q1 := drN_dn (k := 0) hd m1 (by omega)
          have q2 := drN_up (k := y1 - y0) hd m1 (by rw [Int.mul_comm (x1 - x0)]; exact p2)
          omega
        · have p1 : (y1 - y0) * (x - x0) ≤ 0 := by
            have := Int.mul_nonneg (a := y0 - y1) (b := x - x0) (by omega) (by omega)
            have e : (y0 - y1) * (x - x0) = -((y1 - y0) * (x - x0)) := by grind
            rw [e] at this
            generalize (y1 - y0) * (x - x0) = P at this ⊢
            omega
          have p2 : (y1 - y0) * (x1 - x0) ≤ (y1 - y0) * (x - x0) := by
            have this : x - x0 ≤ x1 - x0 → (y0 - y1) * (x - x0) ≤ (y0 - y1) * (x1 - x0) := fun h => Int.mul_le_mul_of_nonneg_left h (by omega)
            have e : (y0 - y1) * (x - x0) = -((y1 - y0) * (x - x0)) := by grind
            have e2 : (y0 - y1) * (x1 - x0) = -((y1 - y0) * (x1 - x0)) := by grind
            have t := this (show x - x0 ≤ x1 - x0 by omega)
            rw [e, e2] at t
            generalize (y1 - y0) * (x - x0) = P at t ⊢
            generalize (y1 - y0) * (x1 - x0) = Q at t ⊢
            omega
          have q1 := drN_up (k := 0) hd m1 (by omega)
          have q2 := drN_dn (k := y1 - y0) hd m1 (by rw [Int.mul_comm (x1 - x0)]; exact p2)
          omega
      have w5 : IntKind.i64.wrap (y0 + drX ((y1 - y0) * (x - x0)) (x1 - x0)) = y0 + drX ((y1 - y0) * (x - x0)) (x1 - x0) := wrap64 (by omega) (by omega)
      rw [w5]
      omega
theorem drN_mono {M n n' : Int} (h : n ≤ n') (h1 : IsDrN M n (drX n M)) (h2 : IsDrN M n' (drX n' M)) (hM : 0 < M) : drX n M ≤ drX n' M := by
  by_cases e : n = n'
  · rw [e]; exact Int.le_refl _
  refine Classical.byContradiction fun c => ?_
  have q : M * (drX n' M + 1) ≤ M * drX n M := Int.mul_le_mul_of_nonneg_left (by omega) (by omega)
  have e2 : M * (drX n' M + 1) = M * drX n' M + M := by grind
  unfold IsDrN at h1 h2
  generalize M * drX n M = A at *
  generalize M * drX n' M = B at *
  omega
def Tab (L : List Int) (lo hi : Int) : Prop := ∀ k : Fin 7, (0 ≤ L.getD (k.val * 2) 0 ∧ L.getD (k.val * 2) 0 ≤ 1000000) ∧ lo ≤ L.getD (k.val * 2 + 1) 0 ∧ L.getD (k.val * 2 + 1) 0 ≤ hi
theorem rowV_in {L : List Int} {lo hi : Int} (h : Tab L lo hi) (hlo : -1000000 ≤ lo) (hhi : hi ≤ 1000000) (x : Int) : lo ≤ rowV L x ∧ rowV L x ≤ hi := by
  have hk := kOf_in L x
  have h1 := h ⟨kOf L x - 1, by omega⟩
  have h2 := h ⟨kOf L x, by omega⟩
  exact blX_in h1.1.1 h2.1.2 hlo hhi h1.2 h2.2
theorem rk_tab : Tab rk (-42000) 900 := by unfold Tab; decide +kernel
theorem ra_tab : Tab ra 700 1300 := by unfold Tab; decide +kernel
/-- nothing wraps in the sum under the power -/
theorem rsT_is (f i : Int) (hi : i ≤ 200) : rsT f i = rowV rk (IntKind.i64.wrap (f.tdiv 1000)) + 30000 + drX (rowV ra (IntKind.i64.wrap (f.tdiv 1000)) * lgX i) 1000 := by
  have a := rowV_in rk_tab (by decide) (by decide) (IntKind.i64.wrap (f.tdiv 1000))
  have b := rowV_in ra_tab (by decide) (by decide) (IntKind.i64.wrap (f.tdiv 1000))
  have c := lgX_in hi
  unfold rsT
  generalize rowV rk (IntKind.i64.wrap (f.tdiv 1000)) = k at a ⊢
  generalize rowV ra (IntKind.i64.wrap (f.tdiv 1000)) = q at b ⊢
  generalize lgX i = l at c ⊢
  have p1 : 0 ≤ q * l := Int.mul_nonneg (by omega) c.1
  have p2 : q * l ≤ 1300 * l := Int.mul_le_mul_of_nonneg_right b.2 c.1
  have w1 : IntKind.i64.wrap (q * l) = q * l := wrap64 (by omega) (by omega)
  have w2 : IntKind.i64.wrap (k + 30000) = k + 30000 := wrap64 (by omega) (by omega)
  have hd := drX_is (n := q * l) (m := 1000) (by decide) (by decide) (by omega) (by omega)
  have q1 := drN_dn (k := 0) hd (by decide) (by omega)
  have q2 := drN_up (k := 39000) hd (by decide) (by omega)
  rw [w1, w2]
  exact wrap64 (by omega) (by omega)
theorem rsT_mono {f i j : Int} (h : i ≤ j) (hj : j ≤ 200) : rsT f i ≤ rsT f j := by
  rw [rsT_is f i (by omega), rsT_is f j hj]
  have b := rowV_in ra_tab (by decide) (by decide) (IntKind.i64.wrap (f.tdiv 1000))
  have c := lgX_in (x := i) (by omega)
  have c2 := lgX_in hj
  have m := lgX_mono h
  generalize rowV ra (IntKind.i64.wrap (f.tdiv 1000)) = q at b ⊢
  generalize lgX i = l at c m ⊢
  generalize lgX j = r at c2 m ⊢
  have p0 : 0 ≤ q * l := Int.mul_nonneg (by omega) c.1
  have p1 : q * l ≤ q * r := Int.mul_le_mul_of_nonneg_left m (by omega)
  have p2 : q * r ≤ 1300 * r := Int.mul_le_mul_of_nonneg_right b.2 c2.1
  have d1 := drX_is (n := q * l) (m := 1000) (by decide) (by decide) (by omega) (by omega)
  have d2 := drX_is (n := q * r) (m := 1000) (by decide) (by decide) (by omega) (by omega)
  have := drN_mono p1 d1 d2 (by decide)
  omega
theorem rsT_up (f i : Int) (hi : i ≤ 200) : rsT f i ≤ 69900 := by
  have a := rowV_in rk_tab (by decide) (by decide) (IntKind.i64.wrap (f.tdiv 1000))
  have b := rowV_in ra_tab (by decide) (by decide) (IntKind.i64.wrap (f.tdiv 1000))
  have c := lgX_in hi
  rw [rsT_is f i hi]
  generalize rowV ra (IntKind.i64.wrap (f.tdiv 1000)) = q at b ⊢
  generalize lgX i = l at c ⊢
  have p0 : 0 ≤ q * l := Int.mul_nonneg (by omega) c.1
  have p2 : q * l ≤ 1300 * l := Int.mul_le_mul_of_nonneg_right b.2 c.1
  have hd := drX_is (n := q * l) (m := 1000) (by decide) (by decide) (by omega) (by omega)
  have q2 := drN_up (k := 39000) hd (by decide) (by omega)
  omega
/-- rain weakens more at a greater rate -/
theorem rsV_mono {f i j : Int} (h0 : 0 ≤ i) (h : i ≤ j) (hj : j ≤ 200) : rsV f i ≤ rsV f j := by
  have m := rsT_mono (f := f) h hj
  have u := rsT_up f j hj
  have p := pwX_in (rsT f j)
  unfold rsV
  by_cases c : i = 0 ∨ rsT f i < 0
  · rw [if_pos c]
    split <;> omega
  · rw [if_neg c, if_neg (by omega)]
    unfold pwX
    rw [if_pos (by omega), if_pos (by omega)]
    exact pw_mono m
theorem pw_le {v k : Int} (h0 : 1 ≤ k) (h : v ≤ lgI k) : pw v ≤ k := by
  refine Classical.byContradiction fun c => ?_
  have := (pw_is v).2.1 k h0 (by omega)
  omega
theorem lg7 : lgI 10000000 = 70000 := by decide +kernel
theorem rsV_in (f i : Int) (hi : i ≤ 200) : 0 ≤ rsV f i ∧ rsV f i ≤ 10000000 := by
  have u := rsT_up f i hi
  unfold rsV
  split
  · omega
  · unfold pwX
    rw [if_pos (by omega)]
    have := (pw_is (rsT f i)).1
    have := pw_le (v := rsT f i) (k := 10000000) (by omega) (by rw [lg7]; omega)
    omega
end Go.Proofs.YtfdcbmjhoaehlaaDoor
