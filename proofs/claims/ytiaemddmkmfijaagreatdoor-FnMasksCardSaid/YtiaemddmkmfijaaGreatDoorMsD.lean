/-
  OWN WORK: plain: the loss of a mask that holds the offsets of another is not below it by more than 1.
-/
import Derived.Test.YtiaemddmkmfijaaGreatDoorMsA
namespace Go.Proofs.YtiaemddmkmfijaaGreatDoor
open Go Go.Own Go.Proofs
set_option maxHeartbeats 4000000
set_option maxRecDepth 20000
set_option linter.unusedSimpArgs false
set_option linter.unusedVariables false
/-- the loss at an offset that is not negative -/
def lossT (O L : List Int) (t : Int) : Int := pcV O L (kM O t (O.length - 2) 1) t
theorem lossV_T (O L : List Int) (x : Int) : lossV O L x = lossT O L (ab x) := rfl
theorem lnX_x1 {x0 y0 x1 y1 : Int} (h : x0 < x1) : lnX x0 y0 x1 y1 x1 = y1 := by
  unfold lnX
  rw [if_neg (by omega), if_pos (by omega)]
theorem lnX_x0 {x0 y0 x1 y1 : Int} : lnX x0 y0 x1 y1 x0 = y0 := by
  unfold lnX
  rw [if_pos (by omega)]
theorem lnX_near {x0 y0 x1 y1 x : Int} (h : x0 < x1) (h0 : x0 ≤ x) (h1 : x ≤ x1) : IsDr (x1 - x0) ((y1 - y0) * (x - x0)) (lnX x0 y0 x1 y1 x - y0) := by
  unfold lnX
  by_cases c1 : x ≤ x0
  · have e : x = x0 := by omega
    rw [if_pos (.inl c1), e, Int.sub_self, Int.mul_zero, Int.sub_self]
    unfold IsDr
    rw [Int.mul_zero]
    omega
  rw [if_neg (by omega)]
  by_cases c3 : x1 ≤ x
  · have e : x = x1 := by omega
    rw [if_pos c3, e]
    unfold IsDr
    have : (x1 - x0) * (y1 - y0) = (y1 - y0) * (x1 - x0) := Int.mul_comm ..
    omega
  rw [if_neg c3]
  have := drV_is (n := (y1 - y0) * (x - x0)) (m := x1 - x0) (by omega)
  rw [show ∀ a b : Int, a + b - a = b from fun a b => by omega]
  exact this
theorem dr_mono {M n n' d d' : Int} (hM : 0 < M) (h : n ≤ n') (h1 : IsDr M n d) (h2 : IsDr M n' d') (e : n = n' → d = d') : d ≤ d' := by
  by_cases c : n = n'
  · rw [e c]; exact Int.le_refl _
  refine Classical.byContradiction fun k => ?_
  have : M * (d' + 1) ≤ M * d := Int.mul_le_mul_of_nonneg_left (by omega) (by omega)
  have e2 : M * (d' + 1) = M * d' + M := by grind
  unfold IsDr at h1 h2
  omega
theorem lnX_mono {x0 y0 x1 y1 x x' : Int} (hy : y0 ≤ y1) (h : x ≤ x') : lnX x0 y0 x1 y1 x ≤ lnX x0 y0 x1 y1 x' := by
  have b1 := lnX_in (x0 := x0) (x1 := x1) hy x
  have b2 := lnX_in (x0 := x0) (x1 := x1) hy x'
  unfold lnX at b1 b2 ⊢
  by_cases c1 : x ≤ x0 ∨ x1 ≤ x0
  · rw [if_pos c1]; exact b2.1
  by_cases c2 : x1 ≤ x'
  · rw [if_neg (show ¬ (x' ≤ x0 ∨ x1 ≤ x0) by omega), if_pos c2]; exact b1.2
  rw [if_neg c1, if_neg (show ¬ x1 ≤ x by omega), if_neg (show ¬ (x' ≤ x0 ∨ x1 ≤ x0) by omega), if_neg c2]
  have d1 := drV_is (n := (y1 - y0) * (x - x0)) (m := x1 - x0) (by omega)
  have d2 := drV_is (n := (y1 - y0) * (x' - x0)) (m := x1 - x0) (by omega)
  have := dr_mono (by omega) (show (y1 - y0) * (x - x0) ≤ (y1 - y0) * (x' - x0) from Int.mul_le_mul_of_nonneg_left (by omega) (by omega)) d1 d2 (fun e => by rw [e])
  omega
/-- where an offset lies -/
theorem at_k {O L : List Int} (h : MkOk O L) {t : Int} (ht : 0 ≤ t) : ∃ k, kM O t (O.length - 2) 1 = k ∧ 1 ≤ k ∧ k < O.length ∧ (k = O.length - 1 ∨ t ≤ O.getD k 0) ∧ (∀ j, 1 ≤ j → j < k → O.getD j 0 < t) ∧ O.getD (k - 1) 0 ≤ t := by
  have n2 := h.n2
  obtain ⟨⟨a1, a2⟩, a3, a4⟩ := kM_is O t (O.length - 2) 1
  refine ⟨_, rfl, a1, by omega, ?_, a4, ?_⟩
  · rcases a3 with a3 | a3
    · exact .inl (by omega)
    · exact .inr a3
  · by_cases c : kM O t (O.length - 2) 1 = 1
    · rw [c, h.o0]; exact ht
    · have := a4 (kM O t (O.length - 2) 1 - 1) (by omega) (by omega)
      omega
theorem pc_in {O L : List Int} (h : MkOk O L) {k : Nat} (k1 : 1 ≤ k) (k2 : k < O.length) (t : Int) : L.getD (k - 1) 0 ≤ pcV O L k t ∧ pcV O L k t ≤ L.getD k 0 := lnX_in (h.srt k (by omega) k2) t
theorem lossT_in {O L : List Int} (h : MkOk O L) {t : Int} (ht : 0 ≤ t) : 0 ≤ lossT O L t ∧ lossT O L t ≤ 120000 := by
  obtain ⟨k, e, k1, k2, _⟩ := at_k h ht
  unfold lossT
  rw [e]
  have a := pc_in h k1 k2 t
  have b := h.lAt (i := k - 1) (by omega)
  have c := h.lAt k2
  omega
theorem ab_nn (x : Int) : 0 ≤ ab x := by unfold ab; split <;> omega
theorem lossV_in {O L : List Int} (h : MkOk O L) (x : Int) : 0 ≤ lossV O L x ∧ lossV O L x ≤ 120000 := lossT_in h (ab_nn x)
theorem lossT_pc {O L : List Int} (h : MkOk O L) {k : Nat} (k1 : 1 ≤ k) (k2 : k < O.length) {t : Int} (h1 : O.getD (k - 1) 0 ≤ t) (h2 : t ≤ O.getD k 0) : lossT O L t = pcV O L k t := by
  have n2 := h.n2
  have ht : 0 ≤ t := by have := h.oAt (i := k - 1) (by omega); omega
  by_cases c : k = 1 ∨ O.getD (k - 1) 0 < t
  · unfold lossT
    rw [kM_unique (k := k) ⟨k1, by omega⟩ (.inr h2) fun j j1 j2 => ?_]
    have := h.oLe (i := j) (j := k - 1) (by omega) (by omega)
    omega
  · have e : t = O.getD (k - 1) 0 := by omega
    have i1 := h.inc (k - 1) (by omega) (by omega)
    unfold lossT
    rw [kM_unique (k := k - 1) ⟨by omega, by omega⟩ (.inr (by omega)) fun j j1 j2 => ?_]
    · unfold pcV
      rw [e, lnX_x1 i1, lnX_x0]
    · have := h.oLt (i := j) (j := k - 1) (by omega) (by omega)
      omega
theorem lossT_at {O L : List Int} (h : MkOk O L) {k : Nat} (k2 : k < O.length) : lossT O L (O.getD k 0) = L.getD k 0 := by
  have n2 := h.n2
  by_cases c : k = 0
  · subst c
    rw [lossT_pc h (k := 1) (by omega) (by omega) (Int.le_refl _) (Int.le_of_lt (h.inc 1 (by omega) (by omega)))]
    exact lnX_x0
  · have i1 := h.inc k (by omega) k2
    rw [lossT_pc h (k := k) (by omega) k2 (by omega) (Int.le_refl _)]
    exact lnX_x1 i1
theorem lossT_mono {O L : List Int} (h : MkOk O L) {s t : Int} (hs : 0 ≤ s) (hst : s ≤ t) : lossT O L s ≤ lossT O L t := by
  obtain ⟨k, e1, k1, k2, k3, k4, k5⟩ := at_k h hs
  obtain ⟨j, e2, j1, j2, j3, j4, j5⟩ := at_k (t := t) h (by omega)
  unfold lossT
  rw [e1, e2]
  have hkj : k ≤ j := Classical.byContradiction fun c => by
    have := k4 j j1 (by omega)
    rcases j3 with j3 | j3 <;> omega
  by_cases c : k = j
  · subst c
    exact lnX_mono (h.srt k (by omega) k2) hst
  · have a := (pc_in h k1 k2 s).2
    have b := (pc_in h j1 j2 t).1
    have := h.lLe (i := k) (j := j - 1) (by omega) (by omega)
    omega
theorem lossT_top {O L : List Int} (h : MkOk O L) {t : Int} (ht : O.getD (O.length - 1) 0 ≤ t) : lossT O L t = L.getD (O.length - 1) 0 := by
  have n2 := h.n2
  have a := lossT_mono (s := O.getD (O.length - 1) 0) h (h.oAt (by omega)).1 ht
  rw [lossT_at h (by omega)] at a
  have h0 : 0 ≤ t := by have := h.oAt (i := O.length - 1) (by omega); omega
  obtain ⟨k, e1, k1, k2, _⟩ := at_k h h0
  have b : lossT O L t ≤ L.getD (O.length - 1) 0 := by
    unfold lossT
    rw [e1]
    have := (pc_in h k1 k2 t).2
    have := h.lLe (i := k) (j := O.length - 1) (by omega) (by omega)
    omega
  omega
theorem cmp_ln {D E S u p a0 a1 a b0 b1 c : Int} (hD : 0 < D) (hE : 0 < E) (hp0 : 0 ≤ p) (hp : p ≤ E) (h0 : IsDr D (S * u) a0) (h1 : IsDr D (S * (u + E)) a1) (h : IsDr D (S * (u + p)) a) (hb0 : a0 ≤ b0) (hb1 : a1 ≤ b1) (hc : IsDr E ((b1 - b0) * p) (c - b0)) : a - 1 ≤ c := by
  have A1 : (E - p) * a0 ≤ (E - p) * b0 := Int.mul_le_mul_of_nonneg_left hb0 (by omega)
  have A2 : p * a1 ≤ p * b1 := Int.mul_le_mul_of_nonneg_left hb1 hp0
  have e1 : E * (c - b0) - (b1 - b0) * p = E * c - ((E - p) * b0 + p * b1) := by grind
  have I : 2 * ((E - p) * a0 + p * a1) - E ≤ 2 * (E * c) := by
    have := hc.2
    rw [e1] at this
    generalize E * c = x at *
    generalize (E - p) * b0 = y at *
    generalize p * b1 = z at *
    generalize (E - p) * a0 = v at *
    generalize p * a1 = w at *
    omega
  have J : D * (2 * ((E - p) * a0 + p * a1) - E) ≤ D * (2 * (E * c)) := Int.mul_le_mul_of_nonneg_left I (by omega)
  have e2 : D * (2 * ((E - p) * a0 + p * a1) - E) = (E - p) * (2 * (D * a0)) + p * (2 * (D * a1)) - D * E := by grind
  have k0 : 2 * (S * u) - D ≤ 2 * (D * a0) := by
    have := h0.2
    generalize D * a0 = x at *
    generalize S * u = y at *
    omega
  have k1 : 2 * (S * (u + E)) - D ≤ 2 * (D * a1) := by
    have := h1.2
    generalize D * a1 = x at *
    generalize S * (u + E) = y at *
    omega
  have m0 : (E - p) * (2 * (S * u) - D) ≤ (E - p) * (2 * (D * a0)) := Int.mul_le_mul_of_nonneg_left k0 (by omega)
  have m1 : p * (2 * (S * (u + E)) - D) ≤ p * (2 * (D * a1)) := Int.mul_le_mul_of_nonneg_left k1 hp0
  have e3 : (E - p) * (2 * (S * u) - D) + p * (2 * (S * (u + E)) - D) - D * E = E * (2 * (S * (u + p)) - 2 * D) := by grind
  have e4 : D * (2 * (E * c)) = E * (2 * (D * c)) := by grind
  have K : E * (2 * (S * (u + p)) - 2 * D) ≤ E * (2 * (D * c)) := by
    rw [e2] at J
    rw [← e3, ← e4]
    generalize (E - p) * (2 * (S * u) - D) = x1 at *
    generalize p * (2 * (S * (u + E)) - D) = x2 at *
    generalize (E - p) * (2 * (D * a0)) = x3 at *
    generalize p * (2 * (D * a1)) = x4 at *
    generalize D * (2 * (E * c)) = x5 at *
    generalize D * E = x6 at *
    omega
  have L : 2 * (S * (u + p)) - 2 * D ≤ 2 * (D * c) := Int.le_of_mul_le_mul_left K hE
  refine Classical.byContradiction fun q => ?_
  have q1 : D * c ≤ D * (a - 2) := Int.mul_le_mul_of_nonneg_left (by omega) (by omega)
  have e5 : D * (a - 2) = D * a - 2 * D := by grind
  have := h.1
  rw [e5] at q1
  generalize D * a = x1 at *
  generalize D * c = x2 at *
  generalize S * (u + p) = x3 at *
  omega
theorem mem_getD {L : List Int} {x : Int} (h : x ∈ L) : ∃ i, i < L.length ∧ L.getD i 0 = x := by
  obtain ⟨i, hi, e⟩ := List.getElem_of_mem h
  exact ⟨i, hi, by rw [gD0 hi]; exact e⟩
theorem getD_mem {L : List Int} {i : Nat} (h : i < L.length) : L.getD i 0 ∈ L := by
  rw [gD0 h]; exact List.getElem_mem h
theorem loss_common {O L G M : List Int} (h : MkOk O L) (hg : MkOk G M) (sub : ∀ x ∈ O, x ∈ G) (dom : ∀ j, j < G.length → lossT O L (G.getD j 0) ≤ M.getD j 0) {t : Int} (ht : 0 ≤ t) : lossT O L t - 1 ≤ lossT G M t := by
  have n2 := h.n2
  have m2 := hg.n2
  by_cases top : O.getD (O.length - 1) 0 ≤ t
  · obtain ⟨i, hi, ei⟩ := mem_getD (sub _ (getD_mem (L := O) (i := O.length - 1) (by omega)))
    have a := dom i hi
    rw [ei, lossT_at h (by omega)] at a
    have b := lossT_mono (s := G.getD i 0) (t := t) hg (hg.oAt hi).1 (by omega)
    rw [lossT_at hg hi] at b
    rw [lossT_top h top]
    omega
  obtain ⟨k, e1, k1, k2, k3, k4, k5⟩ := at_k h ht
  obtain ⟨j, e2, j1, j2, j3, j4, j5⟩ := at_k hg ht
  have tk : t ≤ O.getD k 0 := by
    rcases k3 with k3 | k3
    · rw [k3]; omega
    · exact k3
  obtain ⟨i, hi, ei⟩ := mem_getD (sub _ (getD_mem (L := O) (i := k) (by omega)))
  have pos : 0 < O.getD k 0 := by
    have := h.oLt (i := 0) (j := k) (by omega) k2
    rw [h.o0] at this
    exact this
  have ij : j ≤ i := Classical.byContradiction fun c => by
    by_cases z : i = 0
    · rw [z, hg.o0] at ei; omega
    · have := j4 i (by omega) (by omega)
      omega
  have hi1 : G.getD j 0 ≤ O.getD k 0 := by rw [← ei]; exact hg.oLe ij hi
  have tj : t ≤ G.getD j 0 := by
    rcases j3 with j3 | j3
    · have := hg.oLe (i := i) (j := j) (by omega) (by omega)
      omega
    · exact j3
  have lo1 : O.getD (k - 1) 0 ≤ G.getD (j - 1) 0 := by
    by_cases z : k = 1
    · rw [z, Nat.sub_self, h.o0]; exact (hg.oAt (by omega)).1
    · obtain ⟨i', hi', ei'⟩ := mem_getD (sub _ (getD_mem (L := O) (i := k - 1) (by omega)))
      have l1 := k4 (k - 1) (by omega) (by omega)
      have l2 : i' < j := Classical.byContradiction fun c => by
        have := hg.oLe (i := j) (j := i') (by omega) hi'
        omega
      rw [← ei']
      exact hg.oLe (by omega) (by omega)
  have gE := hg.inc j (by omega) j2
  have gD := h.inc k (by omega) k2
  have f0 := lnX_near (y0 := L.getD (k - 1) 0) (y1 := L.getD k 0) (x := G.getD (j - 1) 0) gD lo1 (by omega)
  have f1 := lnX_near (y0 := L.getD (k - 1) 0) (y1 := L.getD k 0) (x := G.getD j 0) gD (by omega) hi1
  have f := lnX_near (y0 := L.getD (k - 1) 0) (y1 := L.getD k 0) (x := t) gD k5 tk
  have fg := lnX_near (y0 := M.getD (j - 1) 0) (y1 := M.getD j 0) (x := t) gE j5 tj
  have d0 := dom (j - 1) (by omega)
  have d1 := dom j j2
  rw [lossT_pc h k1 k2 lo1 (by omega)] at d0
  rw [lossT_pc h k1 k2 (by omega) hi1] at d1
  rw [lossT_pc h k1 k2 k5 tk, lossT_pc hg j1 j2 j5 tj]
  unfold pcV at d0 d1 ⊢
  generalize lnX (O.getD (k - 1) 0) (L.getD (k - 1) 0) (O.getD k 0) (L.getD k 0) (G.getD (j - 1) 0) = A0 at *
  generalize lnX (O.getD (k - 1) 0) (L.getD (k - 1) 0) (O.getD k 0) (L.getD k 0) (G.getD j 0) = A1 at *
  generalize lnX (O.getD (k - 1) 0) (L.getD (k - 1) 0) (O.getD k 0) (L.getD k 0) t = A at *
  generalize lnX (G.getD (j - 1) 0) (M.getD (j - 1) 0) (G.getD j 0) (M.getD j 0) t = C at *
  generalize M.getD (j - 1) 0 = B0 at *
  generalize M.getD j 0 = B1 at *
  generalize G.getD (j - 1) 0 = g0 at *
  generalize G.getD j 0 = g1 at *
  generalize O.getD (k - 1) 0 = x0 at *
  generalize O.getD k 0 = x1 at *
  generalize L.getD (k - 1) 0 = y0 at *
  generalize L.getD k 0 = y1 at *
  have r := cmp_ln (D := x1 - x0) (E := g1 - g0) (S := y1 - y0) (u := g0 - x0) (p := t - g0) (a0 := A0 - y0) (a1 := A1 - y0) (a := A - y0) (b0 := B0 - y0) (b1 := B1 - y0) (c := C - y0) (by omega) (by omega) (by omega) (by omega) f0 (by rw [show g0 - x0 + (g1 - g0) = g1 - x0 by omega]; exact f1) (by rw [show g0 - x0 + (t - g0) = t - x0 by omega]; exact f) (by omega) (by omega) (by rw [show B1 - y0 - (B0 - y0) = B1 - B0 by omega, show C - y0 - (B0 - y0) = C - B0 by omega]; exact fg)
  omega
end Go.Proofs.YtiaemddmkmfijaaGreatDoor
