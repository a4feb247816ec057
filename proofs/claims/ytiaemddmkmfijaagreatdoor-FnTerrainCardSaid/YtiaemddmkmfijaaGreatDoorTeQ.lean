/-
  OWN WORK: heights in terrains, plain: grid points, bounds, parts.
-/
import Derived.Test.YtiaemddmkmfijaaGreatDoorTeB
namespace Go.Proofs.YtiaemddmkmfijaaGreatDoor
open Go Go.Own Go.Proofs
set_option maxHeartbeats 4000000
set_option maxRecDepth 20000
set_option linter.unusedSimpArgs false
set_option linter.unusedVariables false
theorem mix_in {a b M s u : Int} (ha : 0 ≤ a ∧ a ≤ M) (hb : 0 ≤ b ∧ b ≤ M) (hu : 0 ≤ u ∧ u ≤ s) : 0 ≤ a * (s - u) + b * u ∧ a * (s - u) + b * u ≤ M * s := by
  have h1 := Int.mul_nonneg ha.1 (show 0 ≤ s - u by omega)
  have h2 := Int.mul_nonneg hb.1 hu.1
  have h3 := Int.mul_le_mul_of_nonneg_right ha.2 (show 0 ≤ s - u by omega)
  have h4 := Int.mul_le_mul_of_nonneg_right hb.2 hu.1
  have e : M * (s - u) + M * u = M * s := by grind
  omega
theorem htS_mix (s w : Int) (hs : List Int) (i k u v : Int) : htS s w hs i k u v = (hAt hs w i k * (s - u) + hAt hs w (i + 1) k * u) * (s - v) + (hAt hs w i (k + 1) * (s - u) + hAt hs w (i + 1) (k + 1) * u) * v := by
  unfold htS
  grind
theorem htS_x (s w : Int) (hs : List Int) (i k v : Int) : htS s w hs (i + 1) k 0 v = htS s w hs i k s v := by
  unfold htS
  grind
theorem htS_y (s w : Int) (hs : List Int) (i k u : Int) : htS s w hs i (k + 1) u 0 = htS s w hs i k u s := by
  unfold htS
  grind
theorem htS_00 (s w : Int) (hs : List Int) (i k : Int) : htS s w hs i k 0 0 = hAt hs w i k * (s * s) := by
  unfold htS
  grind
theorem drV_of {M n H : Int} (hM : 0 < M) (h : n = H * M) : drV n M = H := by
  have a := drV_is (n := n) hM
  generalize drV n M = d at *
  obtain ⟨a1, a2⟩ := a
  subst h
  by_cases c1 : d ≤ H - 1
  · have := Int.mul_le_mul_of_nonneg_left c1 (show 0 ≤ M by omega)
    have e : M * (H - 1) = H * M - M := by grind
    omega
  by_cases c2 : H + 1 ≤ d
  · have := Int.mul_le_mul_of_nonneg_left c2 (show 0 ≤ M by omega)
    have e : M * (H + 1) = H * M + M := by grind
    omega
  omega
theorem drV_in {M n H : Int} (hM : 0 < M) (h0 : 0 ≤ n) (h : n ≤ H * M) : 0 ≤ drV n M ∧ drV n M ≤ H := by
  have a := drV_is (n := n) hM
  generalize drV n M = d at *
  obtain ⟨a1, a2⟩ := a
  constructor
  · refine Classical.byContradiction fun c => ?_
    have := Int.mul_le_mul_of_nonneg_left (show d ≤ -1 by omega) (show 0 ≤ M by omega)
    omega
  · refine Classical.byContradiction fun c => ?_
    have := Int.mul_le_mul_of_nonneg_left (show H + 1 ≤ d by omega) (show 0 ≤ M by omega)
    have e : M * (H + 1) = H * M + M := by grind
    omega
/-- where a place in a cell lies -/
theorem htI_cell {s w i q : Int} (hs : 1 ≤ s) (hi : 0 ≤ i ∧ i ≤ w - 2) (hq : 0 ≤ q ∧ q ≤ s) :
    (htI s w (q + i * s) = i ∧ q + i * s - htI s w (q + i * s) * s = q) ∨ (q = s ∧ htI s w (q + i * s) = i + 1 ∧ q + i * s - htI s w (q + i * s) * s = 0) := by
  have d : (q + i * s) / s = q / s + i := Int.add_mul_ediv_right q i (by omega)
  unfold htI
  rw [d]
  by_cases c : q = s
  · subst c
    rw [Int.ediv_self (by omega)]
    by_cases c2 : 1 + i ≤ w - 2
    · rw [Int.min_eq_left c2]
      refine .inr ⟨rfl, by omega, ?_⟩
      grind
    · rw [Int.min_eq_right (by omega)]
      have : w - 2 = i := by omega
      rw [this]
      refine .inl ⟨rfl, ?_⟩
      omega
  · rw [Int.ediv_eq_zero_of_lt hq.1 (by omega), Int.zero_add, Int.min_eq_left (by omega)]
    exact .inl ⟨rfl, by omega⟩
theorem htS_cell {s w h i j qx qy : Int} (hs : List Int) (h1 : 1 ≤ s) (hi : 0 ≤ i ∧ i ≤ w - 2) (hj : 0 ≤ j ∧ j ≤ h - 2) (hx : 0 ≤ qx ∧ qx ≤ s) (hy : 0 ≤ qy ∧ qy ≤ s) :
    htV s w h hs (qx + i * s) (qy + j * s) = drV (htS s w hs i j qx qy) (s * s) := by
  unfold htV
  rcases htI_cell (w := w) h1 hi hx with ⟨a1, a2⟩ | ⟨a0, a1, a2⟩ <;> rcases htI_cell (w := h) h1 hj hy with ⟨b1, b2⟩ | ⟨b0, b1, b2⟩
  · rw [a2, b2, a1, b1]
  · rw [a2, b2, a1, b1, htS_y]
    subst b0
    rfl
  · rw [a2, b2, a1, b1, htS_x]
    subst a0
    rfl
  · rw [a2, b2, a1, b1, htS_x, htS_y]
    subst a0
    rw [b0]
theorem hAt_in {hs : List Int} {w h i k M : Int} (hl : (hs.length : Int) = w * h) (hM : ∀ x ∈ hs, 0 ≤ x ∧ x ≤ M) (hi : 0 ≤ i ∧ i ≤ w - 1) (hk : 0 ≤ k ∧ k ≤ h - 1) : 0 ≤ hAt hs w i k ∧ hAt hs w i k ≤ M := by
  obtain ⟨j, hj, _, e⟩ := hAt_mem hl hi hk
  rw [e]
  exact hM _ (List.getElem_mem hj)
/-- every point lies in a cell -/
theorem cell_of {s w x : Int} (hs : 1 ≤ s) (hw : 2 ≤ w) (h0 : 0 ≤ x) (h1 : x ≤ (w - 1) * s) : ∃ i q, (0 ≤ i ∧ i ≤ w - 2) ∧ (0 ≤ q ∧ q ≤ s) ∧ x = q + i * s := by
  obtain ⟨a, b⟩ := htI_in hs hw h0 h1
  exact ⟨htI s w x, x - htI s w x * s, a, b, by omega⟩
theorem sq_pos {s : Int} (h : 1 ≤ s) : 0 < s * s := Int.mul_pos (by omega) (by omega)
theorem htV_in {s w h : Int} {hs : List Int} {M x y : Int} (hz : Sized s w h) (hl : (hs.length : Int) = w * h) (hM : ∀ x ∈ hs, 0 ≤ x ∧ x ≤ M) (hin : InTer s w h x y) : 0 ≤ htV s w h hs x y ∧ htV s w h hs x y ≤ M := by
  obtain ⟨hs1, hw, hh, _⟩ := hz
  obtain ⟨i, q, hi, hq, rfl⟩ := cell_of hs1.1 hw.1 hin.1.1 hin.1.2
  obtain ⟨j, r, hj, hr, rfl⟩ := cell_of hs1.1 hh.1 hin.2.1 hin.2.2
  rw [htS_cell hs hs1.1 hi hj hq hr, htS_mix]
  have h1 := hAt_in (i := i) (k := j) hl hM (by omega) (by omega)
  have h2 := hAt_in (i := i + 1) (k := j) hl hM (by omega) (by omega)
  have h3 := hAt_in (i := i) (k := j + 1) hl hM (by omega) (by omega)
  have h4 := hAt_in (i := i + 1) (k := j + 1) hl hM (by omega) (by omega)
  have m1 := mix_in h1 h2 hq
  have m2 := mix_in h3 h4 hq
  have m3 := mix_in m1 m2 hr
  rw [Int.mul_assoc] at m3
  exact drV_in (sq_pos hs1.1) m3.1 m3.2
theorem htV_grid {s w h : Int} {hs : List Int} {x y : Int} (hz : Sized s w h) (hx : 0 ≤ x ∧ x ≤ w - 1) (hy : 0 ≤ y ∧ y ≤ h - 1) : htV s w h hs (x * s) (y * s) = hAt hs w x y := by
  obtain ⟨hs1, hw, hh, _⟩ := hz
  have px : ∃ i q, (0 ≤ i ∧ i ≤ w - 2) ∧ (0 ≤ q ∧ q ≤ s) ∧ x * s = q + i * s ∧ (q = 0 ∧ i = x ∨ q = s ∧ i + 1 = x) := by
    by_cases c : x ≤ w - 2
    · exact ⟨x, 0, by omega, by omega, by omega, .inl ⟨rfl, rfl⟩⟩
    · refine ⟨x - 1, s, by omega, by omega, ?_, .inr ⟨rfl, by omega⟩⟩
      grind
  have py : ∃ i q, (0 ≤ i ∧ i ≤ h - 2) ∧ (0 ≤ q ∧ q ≤ s) ∧ y * s = q + i * s ∧ (q = 0 ∧ i = y ∨ q = s ∧ i + 1 = y) := by
    by_cases c : y ≤ h - 2
    · exact ⟨y, 0, by omega, by omega, by omega, .inl ⟨rfl, rfl⟩⟩
    · refine ⟨y - 1, s, by omega, by omega, ?_, .inr ⟨rfl, by omega⟩⟩
      grind
  obtain ⟨i, q, hi, hq, ex, cx⟩ := px
  obtain ⟨j, r, hj, hr, ey, cy⟩ := py
  rw [ex, ey, htS_cell hs hs1.1 hi hj hq hr]
  refine drV_of (sq_pos hs1.1) ?_
  rcases cx with ⟨rfl, rfl⟩ | ⟨rfl, rfl⟩ <;> rcases cy with ⟨rfl, rfl⟩ | ⟨rfl, rfl⟩
  · exact htS_00 ..
  · rw [← htS_y]; exact htS_00 ..
  · rw [← htS_x]; exact htS_00 ..
  · rw [← htS_x, ← htS_y]; exact htS_00 ..
theorem clI_grid {s x : Int} (hs : 1 ≤ s) : clI s (x * s) = x := by
  unfold clI
  have e : 2 * (x * s) + s = s + x * (2 * s) := by grind
  rw [e, Int.add_mul_ediv_right _ _ (by omega), Int.ediv_eq_zero_of_lt (by omega) (by omega)]
  omega
/-- a part of two rows and two columns -/
def crL (A : List Int) (w i k : Int) : List Int := [hAt A w i k, hAt A w (i + 1) k, hAt A w i (k + 1), hAt A w (i + 1) (k + 1)]
theorem crL_in {A : List Int} {w h i k M : Int} (hl : (A.length : Int) = w * h) (hM : ∀ x ∈ A, 0 ≤ x ∧ x ≤ M) (hi : 0 ≤ i ∧ i ≤ w - 2) (hk : 0 ≤ k ∧ k ≤ h - 2) : ∀ x ∈ crL A w i k, 0 ≤ x ∧ x ≤ M := by
  intro x hx
  unfold crL at hx
  simp only [List.mem_cons, List.not_mem_nil, or_false] at hx
  rcases hx with rfl | rfl | rfl | rfl
  · exact hAt_in hl hM (by omega) (by omega)
  · exact hAt_in hl hM (by omega) (by omega)
  · exact hAt_in hl hM (by omega) (by omega)
  · exact hAt_in hl hM (by omega) (by omega)
theorem cr_ok {s w h : Int} {hs cl : List Int} (hT : OkTer s w h hs cl) {i k : Int} (hi : 0 ≤ i ∧ i ≤ w - 2) (hk : 0 ≤ k ∧ k ≤ h - 2) : OkTer s 2 2 (crL hs w i k) (crL cl w i k) := by
  obtain ⟨⟨s1, s2, s3, s4, s5⟩, l1, l2, b1, b2⟩ := hT
  exact ⟨⟨s1, by omega, by omega, by omega, by omega⟩, rfl, rfl, crL_in l1 b1 hi hk, crL_in (by omega) b2 hi hk⟩
theorem crop_same {s w h : Int} {hs : List Int} {i j qx qy : Int} (h1 : 1 ≤ s) (hi : 0 ≤ i ∧ i ≤ w - 2) (hj : 0 ≤ j ∧ j ≤ h - 2) (hx : 0 ≤ qx ∧ qx ≤ s) (hy : 0 ≤ qy ∧ qy ≤ s) : htV s 2 2 (crL hs w i j) qx qy = htV s w h hs (qx + i * s) (qy + j * s) := by
  rw [htS_cell hs h1 hi hj hx hy]
  have a := htS_cell (w := 2) (h := 2) (i := 0) (j := 0) (crL hs w i j) h1 (by omega) (by omega) hx hy
  rw [Int.zero_mul, Int.add_zero, Int.add_zero] at a
  rw [a]
  rfl
end Go.Proofs.YtiaemddmkmfijaaGreatDoor
