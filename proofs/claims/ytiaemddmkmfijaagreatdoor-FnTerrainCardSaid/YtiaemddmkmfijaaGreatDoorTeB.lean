/-
  OWN WORK: heights and clutter at a point of a terrain.
-/
import Derived.Test.YtiaemddmkmfijaaGreatDoorTeA
namespace Go.Proofs.YtiaemddmkmfijaaGreatDoor
open Go Go.Own Go.Proofs
set_option maxHeartbeats 4000000
set_option maxRecDepth 20000
set_option linter.unusedSimpArgs false
def htI (s w x : Int) : Int := min (x / s) (w - 2)
theorem htI_in {s w x : Int} (hs : 1 ≤ s) (hw : 2 ≤ w) (h0 : 0 ≤ x) (h1 : x ≤ (w - 1) * s) : (0 ≤ htI s w x ∧ htI s w x ≤ w - 2) ∧ 0 ≤ x - htI s w x * s ∧ x - htI s w x * s ≤ s := by
  have a1 := Int.mul_ediv_add_emod x s
  have a2 := Int.emod_nonneg x (show s ≠ 0 by omega)
  have a3 := Int.emod_lt_of_pos x (show 0 < s by omega)
  have a4 : 0 ≤ x / s := Int.ediv_nonneg h0 (by omega)
  have e1 : (w - 2) * s = (w - 1) * s - s := by grind
  have e2 : x / s * s = s * (x / s) := Int.mul_comm _ _
  unfold htI
  by_cases h : x / s ≤ w - 2
  · rw [Int.min_eq_left h]
    generalize x / s = q at *
    generalize s * q = sq at *
    omega
  · rw [Int.min_eq_right (by omega)]
    have a5 : s * (w - 1) ≤ s * (x / s) := Int.mul_le_mul_of_nonneg_left (by omega) (by omega)
    rw [Int.mul_comm s (w - 1)] at a5
    generalize x / s = q at *
    generalize s * q = sq at *
    omega
def hAt (hs : List Int) (w i k : Int) : Int := hs.getD (k * w + i).toNat 0
theorem hAt_mem {hs : List Int} {w h i k : Int} (hl : (hs.length : Int) = w * h) (hi : 0 ≤ i ∧ i ≤ w - 1) (hk : 0 ≤ k ∧ k ≤ h - 1) : ∃ j : Nat, ∃ hj : j < hs.length, k * w + i = j ∧ hAt hs w i k = hs[j] := by
  have a1 : 0 ≤ k * w := Int.mul_nonneg hk.1 (by omega)
  have a2 : k * w ≤ (h - 1) * w := Int.mul_le_mul_of_nonneg_right hk.2 (by omega)
  have e1 : (h - 1) * w = w * h - w := by grind
  obtain ⟨j, ej⟩ : ∃ j : Nat, k * w + i = j := ⟨(k * w + i).toNat, by omega⟩
  have hj : j < hs.length := by omega
  refine ⟨j, hj, ej, ?_⟩
  unfold hAt
  rw [ej, Int.toNat_natCast]
  simp [List.getD, hj]
def htS (s w : Int) (hs : List Int) (i k u v : Int) : Int := hAt hs w i k * (s - u) * (s - v) + hAt hs w (i + 1) k * u * (s - v) + hAt hs w i (k + 1) * (s - u) * v + hAt hs w (i + 1) (k + 1) * u * v
def htV (s w h : Int) (hs : List Int) (x y : Int) : Int := drV (htS s w hs (htI s w x) (htI s h y) (x - htI s w x * s) (y - htI s h y * s)) (s * s)
theorem den_height1 (s w h : Int) (hs cl : List Int) (hT : OkTer s w h hs cl) (i k : Int) (hi : 0 ≤ i ∧ i ≤ w - 1) (hk : 0 ≤ k ∧ k ≤ h - 1) : Den Tryz.prog 122 [.i i, .i k, .iptr (terC s w h hs cl) 0] (.i (hAt hs w i k)) := by
  obtain ⟨j, hj, ej, e⟩ := hAt_mem hT.2.1 hi hk
  obtain ⟨⟨_, hw, hh, _⟩, _⟩ := hT
  have a1 : 0 ≤ k * w := Int.mul_nonneg hk.1 (by omega)
  have a2 := Int.mul_le_mul (a := k) (b := w) (c := 24) (d := 24) (by omega) (by omega) (by omega) (by omega)
  have w1 : IntKind.i64.wrap (k * w) = k * w := wrap64 (by omega) (by omega)
  have w2 : IntKind.i64.wrap (k * w + i) = j := (wrap64 (by omega) (by omega)).trans ej
  rw [e]
  refine den_of_awp Tryz.func122 rfl (by kernel_rfl) (Nat.le_of_ble_eq_true rfl) (by simp only [treeL, AVal.tree, treeL_i, treeL_ints, treeL_u8, treeL_append, Bool.and_self, Bool.and_true, Bool.true_and]) (by first | rfl | simp only [treeL, AVal.tree, treeL_i, treeL_ints, treeL_u8, treeL_append, Bool.and_self, Bool.and_true, Bool.true_and]) mixed (by kernel_rfl) fun hl => ?_
  simp only [lensL, lens, lensL_i, lensL_mapC, maxI, and_true, true_and] at hl
  rw [Tryz.ntmps122]
  refine ex_start ?_
  simp (config := { maxSteps := 1000000 }) +decide only [NoH, Old, OldL, nilQ, nilA, asgn, nz, RechL, ReY, isNew, stepO, XPost, postN, XOk, updN, updU, isEff, avalue, aeff, ASt.eval, ASt.put, ASt.set, ASt.new, Nat.reduceDiv, Nat.reduceAdd, Int.reduceToNat, absV, absC, scalar, alen, acap, conc, flats, live, blkOf, aload, rd, part?, afieldAddr, afield, aindexAddr, cellsOf, afill, places, abuild, optI, asliceV, asliceS, szOk, srcCells, aappend, acopy, astore, amakeSlice, abuildSlice, snapL, mapO, treeL, AVal.tree, AVal.flatT, isFlat, ares, isFz, afroz, afrozB, lookupA, lookupH, tops, if_true, if_false, reduceCtorEq, forall_const, ite_true, ite_false, implies_true, walkS, tabS, Tryz.results122, w1, w2, hj]
theorem mul3 {a p q A B C : Int} (a0 : 0 ≤ a) (a1 : a ≤ A) (p0 : 0 ≤ p) (p1 : p ≤ B) (q0 : 0 ≤ q) (q1 : q ≤ C) : (0 ≤ a * p ∧ a * p ≤ A * B) ∧ 0 ≤ a * p * q ∧ a * p * q ≤ A * B * C := by
  have b1 := Int.mul_nonneg a0 p0
  have b2 := Int.mul_le_mul a1 p1 p0 (by omega)
  have b3 := Int.mul_nonneg b1 q0
  have b4 := Int.mul_le_mul b2 q1 q0 (by omega)
  exact ⟨⟨b1, b2⟩, b3, b4⟩
theorem den_heightAt (s w h : Int) (hs cl : List Int) (hT : OkTer s w h hs cl) (x y : Int) (hin : InTer s w h x y) : Den Tryz.prog 67 [terV s w h hs cl, .agg [.i x, .i y]] (.i (htV s w h hs x y)) := by
  refine den_of_awpG (ghs [] [2, 3]) Tryz.func67 rfl (by kernel_rfl) (Nat.le_of_ble_eq_true rfl) (by simp only [treeL, AVal.tree, treeL_i, treeL_ints, treeL_u8, treeL_append, Bool.and_self, Bool.and_true, Bool.true_and]) (by first | rfl | simp only [treeL, AVal.tree, treeL_i, treeL_ints, treeL_u8, treeL_append, Bool.and_self, Bool.and_true, Bool.true_and]) mixed (by kernel_rfl) fun hl => ?_
  simp only [lensL, lens, lensL_i, lensL_mapC, maxI, and_true, true_and] at hl
  rw [Tryz.ntmps67]
  refine ex_start ?_
  obtain ⟨⟨x0, x1⟩, y0, y1⟩ := hin
  have hT' := hT
  obtain ⟨⟨hs1, hw, hh, hb1, hb2⟩, hl, _, hv, _⟩ := hT
  obtain ⟨i0, u0⟩ := htI_in hs1.1 hw.1 x0 x1
  obtain ⟨k0, v0⟩ := htI_in hs1.1 hh.1 y0 y1
  have q1 : x.tdiv s = x / s := Int.tdiv_eq_ediv_of_nonneg x0
  have q2 : y.tdiv s = y / s := Int.tdiv_eq_ediv_of_nonneg y0
  have q3 : min (x / s) (w - 2) = htI s w x := rfl
  have q4 : min (y / s) (h - 2) = htI s h y := rfl
  have d0 : s ≠ 0 := by omega
  have x2 : 0 ≤ x / s ∧ x / s ≤ x := ⟨Int.ediv_nonneg x0 (by omega), Int.ediv_le_self _ x0⟩
  have y2 : 0 ≤ y / s ∧ y / s ≤ y := ⟨Int.ediv_nonneg y0 (by omega), Int.ediv_le_self _ y0⟩
  unfold htV
  generalize htI s w x = i at i0 u0 q3 ⊢
  generalize htI s h y = k at k0 v0 q4 ⊢
  have m1 := Int.mul_nonneg i0.1 (show 0 ≤ s by omega)
  have m2 := Int.mul_nonneg k0.1 (show 0 ≤ s by omega)
  have w1 : IntKind.i64.wrap (x / s) = x / s := wrap64 (by omega) (by omega)
  have w2 : IntKind.i64.wrap (y / s) = y / s := wrap64 (by omega) (by omega)
  have w3 : IntKind.i64.wrap (w - 2) = w - 2 := wrap64 (by omega) (by omega)
  have w4 : IntKind.i64.wrap (h - 2) = h - 2 := wrap64 (by omega) (by omega)
  have w5 : IntKind.i64.wrap (i * s) = i * s := wrap64 (by omega) (by omega)
  have w6 : IntKind.i64.wrap (k * s) = k * s := wrap64 (by omega) (by omega)
  obtain ⟨u, eu⟩ : ∃ u, x - i * s = u := ⟨_, rfl⟩
  obtain ⟨v, ev⟩ : ∃ v, y - k * s = v := ⟨_, rfl⟩
  have w7 : IntKind.i64.wrap (x - i * s) = u := (wrap64 (by omega) (by omega)).trans eu
  have w8 : IntKind.i64.wrap (y - k * s) = v := (wrap64 (by omega) (by omega)).trans ev
  rw [eu] at u0 ⊢
  rw [ev] at v0 ⊢
  have b : ∀ i k, 0 ≤ i ∧ i ≤ w - 1 → 0 ≤ k ∧ k ≤ h - 1 → 0 ≤ hAt hs w i k ∧ hAt hs w i k ≤ 90000 := fun i k hi hk => by
    obtain ⟨j, hj, _, e⟩ := hAt_mem hl hi hk
    rw [e]
    exact hv _ (List.getElem_mem hj)
  have b1 := b i k (by omega) (by omega)
  have b2 := b (i + 1) k (by omega) (by omega)
  have b3 := b i (k + 1) (by omega) (by omega)
  have b4 := b (i + 1) (k + 1) (by omega) (by omega)
  have c1 := mul3 (B := 10000) (C := 10000) b1.1 b1.2 (show 0 ≤ s - u by omega) (by omega) (show 0 ≤ s - v by omega) (by omega)
  have c2 := mul3 (B := 10000) (C := 10000) b2.1 b2.2 u0.1 (by omega) (show 0 ≤ s - v by omega) (by omega)
  have c3 := mul3 (B := 10000) (C := 10000) b3.1 b3.2 (show 0 ≤ s - u by omega) (by omega) v0.1 (by omega)
  have c4 := mul3 (B := 10000) (C := 10000) b4.1 b4.2 u0.1 (by omega) v0.1 (by omega)
  have ss := Int.mul_le_mul hs1.2 hs1.2 (by omega) (by omega)
  have ss1 := Int.mul_le_mul hs1.1 hs1.1 (by omega) (by omega)
  have p1 : IntKind.i64.wrap (s - u) = s - u := wrap64 (by omega) (by omega)
  have p2 : IntKind.i64.wrap (s - v) = s - v := wrap64 (by omega) (by omega)
  have p3 : IntKind.i64.wrap (i + 1) = i + 1 := wrap64 (by omega) (by omega)
  have p4 : IntKind.i64.wrap (k + 1) = k + 1 := wrap64 (by omega) (by omega)
  have p5 : IntKind.i64.wrap (s * s) = s * s := wrap64 (by omega) (by omega)
  have z1 := den_height1 s w h hs cl hT' i k (by omega) (by omega)
  have z2 := den_height1 s w h hs cl hT' (i + 1) k (by omega) (by omega)
  have z3 := den_height1 s w h hs cl hT' i (k + 1) (by omega) (by omega)
  have z4 := den_height1 s w h hs cl hT' (i + 1) (k + 1) (by omega) (by omega)
  unfold htS
  generalize hAt hs w i k = A1 at *
  generalize hAt hs w (i + 1) k = A2 at *
  generalize hAt hs w i (k + 1) = A3 at *
  generalize hAt hs w (i + 1) (k + 1) = A4 at *
  have r1 : IntKind.i64.wrap (A1 * (s - u)) = A1 * (s - u) := wrap64 (by omega) (by omega)
  have r2 : IntKind.i64.wrap (A1 * (s - u) * (s - v)) = A1 * (s - u) * (s - v) := wrap64 (by omega) (by omega)
  have r3 : IntKind.i64.wrap (A2 * u) = A2 * u := wrap64 (by omega) (by omega)
  have r4 : IntKind.i64.wrap (A2 * u * (s - v)) = A2 * u * (s - v) := wrap64 (by omega) (by omega)
  have r5 : IntKind.i64.wrap (A3 * (s - u)) = A3 * (s - u) := wrap64 (by omega) (by omega)
  have r6 : IntKind.i64.wrap (A3 * (s - u) * v) = A3 * (s - u) * v := wrap64 (by omega) (by omega)
  have r7 : IntKind.i64.wrap (A4 * u) = A4 * u := wrap64 (by omega) (by omega)
  have r8 : IntKind.i64.wrap (A4 * u * v) = A4 * u * v := wrap64 (by omega) (by omega)
  have t1 : IntKind.i64.wrap (A1 * (s - u) * (s - v) + A2 * u * (s - v)) = A1 * (s - u) * (s - v) + A2 * u * (s - v) := wrap64 (by omega) (by omega)
  have t2 : IntKind.i64.wrap (A1 * (s - u) * (s - v) + A2 * u * (s - v) + A3 * (s - u) * v) = A1 * (s - u) * (s - v) + A2 * u * (s - v) + A3 * (s - u) * v := wrap64 (by omega) (by omega)
  have t3 : IntKind.i64.wrap (A1 * (s - u) * (s - v) + A2 * u * (s - v) + A3 * (s - u) * v + A4 * u * v) = A1 * (s - u) * (s - v) + A2 * u * (s - v) + A3 * (s - u) * v + A4 * u * v := wrap64 (by omega) (by omega)
  simp (config := { maxSteps := 1000000 }) +decide only [NoH, Old, OldL, nilQ, nilA, asgn, nz, RechL, ReY, isNew, stepO, XPost, postN, XOk, updN, updU, isEff, avalue, aeff, ASt.eval, ASt.put, ASt.set, ASt.new, Nat.reduceDiv, Nat.reduceAdd, Int.reduceToNat, absV, absC, scalar, alen, acap, conc, flats, live, blkOf, aload, rd, part?, afieldAddr, afield, aindexAddr, cellsOf, afill, places, abuild, optI, asliceV, asliceS, szOk, srcCells, aappend, acopy, astore, amakeSlice, abuildSlice, snapL, mapO, treeL, AVal.tree, AVal.flatT, isFlat, ares, isFz, afroz, afrozB, lookupA, lookupH, tops, if_true, if_false, reduceCtorEq, forall_const, ite_true, ite_false, implies_true, walkS, tabS, Tryz.results67, sem_quo, d0, q1, q2, w1, w2, w3, w4, sem_min, q3, q4, w5, w6, w7, w8]
  refine callK (z1) (by first | exact .inl rfl | exact .inr rfl) ?_
  simp (config := { maxSteps := 1000000 }) +decide only [NoH, Old, OldL, nilQ, nilA, asgn, nz, RechL, ReY, isNew, stepO, XPost, postN, XOk, updN, updU, isEff, avalue, aeff, ASt.eval, ASt.put, ASt.set, ASt.new, Nat.reduceDiv, Nat.reduceAdd, Int.reduceToNat, absV, absC, scalar, alen, acap, conc, flats, live, blkOf, aload, rd, part?, afieldAddr, afield, aindexAddr, cellsOf, afill, places, abuild, optI, asliceV, asliceS, szOk, srcCells, aappend, acopy, astore, amakeSlice, abuildSlice, snapL, mapO, treeL, AVal.tree, AVal.flatT, isFlat, ares, isFz, afroz, afrozB, lookupA, lookupH, tops, if_true, if_false, reduceCtorEq, forall_const, ite_true, ite_false, implies_true, walkS, tabS, Tryz.results67, p1, p2, p3, r1, r2]
  refine callK (z2) (by first | exact .inl rfl | exact .inr rfl) ?_
  simp (config := { maxSteps := 1000000 }) +decide only [NoH, Old, OldL, nilQ, nilA, asgn, nz, RechL, ReY, isNew, stepO, XPost, postN, XOk, updN, updU, isEff, avalue, aeff, ASt.eval, ASt.put, ASt.set, ASt.new, Nat.reduceDiv, Nat.reduceAdd, Int.reduceToNat, absV, absC, scalar, alen, acap, conc, flats, live, blkOf, aload, rd, part?, afieldAddr, afield, aindexAddr, cellsOf, afill, places, abuild, optI, asliceV, asliceS, szOk, srcCells, aappend, acopy, astore, amakeSlice, abuildSlice, snapL, mapO, treeL, AVal.tree, AVal.flatT, isFlat, ares, isFz, afroz, afrozB, lookupA, lookupH, tops, if_true, if_false, reduceCtorEq, forall_const, ite_true, ite_false, implies_true, walkS, tabS, Tryz.results67, p1, p2, p3, p4, r1, r2, r3, r4, t1]
  refine callK (z3) (by first | exact .inl rfl | exact .inr rfl) ?_
  simp (config := { maxSteps := 1000000 }) +decide only [NoH, Old, OldL, nilQ, nilA, asgn, nz, RechL, ReY, isNew, stepO, XPost, postN, XOk, updN, updU, isEff, avalue, aeff, ASt.eval, ASt.put, ASt.set, ASt.new, Nat.reduceDiv, Nat.reduceAdd, Int.reduceToNat, absV, absC, scalar, alen, acap, conc, flats, live, blkOf, aload, rd, part?, afieldAddr, afield, aindexAddr, cellsOf, afill, places, abuild, optI, asliceV, asliceS, szOk, srcCells, aappend, acopy, astore, amakeSlice, abuildSlice, snapL, mapO, treeL, AVal.tree, AVal.flatT, isFlat, ares, isFz, afroz, afrozB, lookupA, lookupH, tops, if_true, if_false, reduceCtorEq, forall_const, ite_true, ite_false, implies_true, walkS, tabS, Tryz.results67, p1, p2, p3, p4, r1, r2, r3, r4, r5, r6, t1, t2]
  refine callK (z4) (by first | exact .inl rfl | exact .inr rfl) ?_
  simp (config := { maxSteps := 1000000 }) +decide only [NoH, Old, OldL, nilQ, nilA, asgn, nz, RechL, ReY, isNew, stepO, XPost, postN, XOk, updN, updU, isEff, avalue, aeff, ASt.eval, ASt.put, ASt.set, ASt.new, Nat.reduceDiv, Nat.reduceAdd, Int.reduceToNat, absV, absC, scalar, alen, acap, conc, flats, live, blkOf, aload, rd, part?, afieldAddr, afield, aindexAddr, cellsOf, afill, places, abuild, optI, asliceV, asliceS, szOk, srcCells, aappend, acopy, astore, amakeSlice, abuildSlice, snapL, mapO, treeL, AVal.tree, AVal.flatT, isFlat, ares, isFz, afroz, afrozB, lookupA, lookupH, tops, if_true, if_false, reduceCtorEq, forall_const, ite_true, ite_false, implies_true, walkS, tabS, Tryz.results67, p1, p2, p3, p4, p5, r1, r2, r3, r4, r5, r6, r7, r8, t1, t2, t3]
  refine callK (den_divRound (A1 * (s - u) * (s - v) + A2 * u * (s - v) + A3 * (s - u) * v + A4 * u * v) (s * s) (by omega) (by omega) (by omega) (by omega)) (by first | exact .inl rfl | exact .inr rfl) ?_
  simp (config := { maxSteps := 1000000 }) +decide only [NoH, Old, OldL, nilQ, nilA, asgn, nz, RechL, ReY, isNew, stepO, XPost, postN, XOk, updN, updU, isEff, avalue, aeff, ASt.eval, ASt.put, ASt.set, ASt.new, Nat.reduceDiv, Nat.reduceAdd, Int.reduceToNat, absV, absC, scalar, alen, acap, conc, flats, live, blkOf, aload, rd, part?, afieldAddr, afield, aindexAddr, cellsOf, afill, places, abuild, optI, asliceV, asliceS, szOk, srcCells, aappend, acopy, astore, amakeSlice, abuildSlice, snapL, mapO, treeL, AVal.tree, AVal.flatT, isFlat, ares, isFz, afroz, afrozB, lookupA, lookupH, tops, if_true, if_false, reduceCtorEq, forall_const, ite_true, ite_false, implies_true, walkS, tabS, Tryz.results67]
def clI (s x : Int) : Int := (2 * x + s) / (2 * s)
theorem clI_in {s w x : Int} (hs : 1 ≤ s) (h0 : 0 ≤ x) (h1 : x ≤ (w - 1) * s) : 0 ≤ clI s x ∧ clI s x ≤ w - 1 := by
  unfold clI
  refine ⟨Int.ediv_nonneg (by omega) (by omega), ?_⟩
  have e1 : w * (2 * s) = 2 * ((w - 1) * s) + 2 * s := by grind
  have : (2 * x + s) / (2 * s) < w := Int.ediv_lt_of_lt_mul (by omega) (by rw [e1]; omega)
  omega
theorem den_clutterAt (s w h : Int) (hs cl : List Int) (hT : OkTer s w h hs cl) (x y : Int) (hin : InTer s w h x y) : Den Tryz.prog 71 [terV s w h hs cl, .agg [.i x, .i y]] (.i (hAt cl w (clI s x) (clI s y))) := by
  refine den_of_awpG (ghs [] [2, 3]) Tryz.func71 rfl (by kernel_rfl) (Nat.le_of_ble_eq_true rfl) (by simp only [treeL, AVal.tree, treeL_i, treeL_ints, treeL_u8, treeL_append, Bool.and_self, Bool.and_true, Bool.true_and]) (by first | rfl | simp only [treeL, AVal.tree, treeL_i, treeL_ints, treeL_u8, treeL_append, Bool.and_self, Bool.and_true, Bool.true_and]) mixed (by kernel_rfl) fun hl => ?_
  simp only [lensL, lens, lensL_i, lensL_mapC, maxI, and_true, true_and] at hl
  rw [Tryz.ntmps71]
  refine ex_start ?_
  obtain ⟨⟨x0, x1⟩, y0, y1⟩ := hin
  obtain ⟨⟨hs1, hw, hh, hb1, hb2⟩, hl, hl2, _, _⟩ := hT
  have i0 := clI_in hs1.1 x0 x1
  have k0 := clI_in hs1.1 y0 y1
  have hl3 : (cl.length : Int) = w * h := by omega
  obtain ⟨j, hj, ej, e⟩ := hAt_mem hl3 i0 k0
  have q1 : (2 * x + s).tdiv (2 * s) = clI s x := Int.tdiv_eq_ediv_of_nonneg (by omega)
  have q2 : (2 * y + s).tdiv (2 * s) = clI s y := Int.tdiv_eq_ediv_of_nonneg (by omega)
  have d0 : 2 * s ≠ 0 := by omega
  rw [e]
  generalize clI s x = i at *
  generalize clI s y = k at *
  have a1 : 0 ≤ k * w := Int.mul_nonneg k0.1 (by omega)
  have a2 := Int.mul_le_mul (a := k) (b := w) (c := 24) (d := 24) (by omega) (by omega) (by omega) (by omega)
  have w1 : IntKind.i64.wrap (2 * x) = 2 * x := wrap64 (by omega) (by omega)
  have w2 : IntKind.i64.wrap (2 * x + s) = 2 * x + s := wrap64 (by omega) (by omega)
  have w3 : IntKind.i64.wrap (2 * y) = 2 * y := wrap64 (by omega) (by omega)
  have w4 : IntKind.i64.wrap (2 * y + s) = 2 * y + s := wrap64 (by omega) (by omega)
  have w5 : IntKind.i64.wrap (2 * s) = 2 * s := wrap64 (by omega) (by omega)
  have w6 : IntKind.i64.wrap i = i := wrap64 (by omega) (by omega)
  have w7 : IntKind.i64.wrap k = k := wrap64 (by omega) (by omega)
  have w8 : IntKind.i64.wrap (k * w) = k * w := wrap64 (by omega) (by omega)
  have w9 : IntKind.i64.wrap (k * w + i) = j := (wrap64 (by omega) (by omega)).trans ej
  simp (config := { maxSteps := 1000000 }) +decide only [NoH, Old, OldL, nilQ, nilA, asgn, nz, RechL, ReY, isNew, stepO, XPost, postN, XOk, updN, updU, isEff, avalue, aeff, ASt.eval, ASt.put, ASt.set, ASt.new, Nat.reduceDiv, Nat.reduceAdd, Int.reduceToNat, absV, absC, scalar, alen, acap, conc, flats, live, blkOf, aload, rd, part?, afieldAddr, afield, aindexAddr, cellsOf, afill, places, abuild, optI, asliceV, asliceS, szOk, srcCells, aappend, acopy, astore, amakeSlice, abuildSlice, snapL, mapO, treeL, AVal.tree, AVal.flatT, isFlat, ares, isFz, afroz, afrozB, lookupA, lookupH, tops, if_true, if_false, reduceCtorEq, forall_const, ite_true, ite_false, implies_true, walkS, tabS, Tryz.results71, sem_quo, d0, q1, q2, w1, w2, w3, w4, w5, w6, w7, w8, w9, hj]
end Go.Proofs.YtiaemddmkmfijaaGreatDoor
