/-
  OWN WORK: what FnTerrain asks: same terrains, changed points.
-/
import Derived.Test.YtiaemddmkmfijaaGreatDoorTeT
import Derived.Test.YtiaemddmkmfijaaGreatDoorTeP
import Derived.Test.YtiaemddmkmfijaaGreatDoorTeK
import Derived.Test.YtiaemddmkmfijaaGreatDoorB10
namespace Go.Proofs.YtiaemddmkmfijaaGreatDoor
open Go Go.Own Go.Proofs
set_option maxHeartbeats 4000000
set_option maxRecDepth 20000
set_option linter.unusedSimpArgs false
set_option linter.unusedVariables false
theorem den_lawAt1 {bs : List Int} (hb : Byt bs) (k : Nat) (n : Int) (hk : k < 1000) (hn : 1 ≤ n ∧ n ≤ 1000000) : ∃ v, (0 ≤ v ∧ v < n) ∧ Den Tryz.prog 12 [bytesV bs, .i k, .i n] (.i v) := by
  by_cases h : 2 ≤ n
  · exact den_lawAt hb k n hk ⟨h, hn.2⟩
  · have e : n ≤ 1 := by omega
    refine ⟨0, by omega, ?_⟩
    refine den_of_awp Tryz.func12 rfl (by kernel_rfl) (Nat.le_of_ble_eq_true rfl) (by simp only [treeL, AVal.tree, treeL_i, treeL_ints, treeL_u8, treeL_append, Bool.and_self, Bool.and_true, Bool.true_and]) (by first | rfl | simp only [treeL, AVal.tree, treeL_i, treeL_ints, treeL_u8, treeL_append, Bool.and_self, Bool.and_true, Bool.true_and]) mixed (by kernel_rfl) fun hl => ?_
    simp only [lensL, lens, lensL_i, lensL_mapC, maxI, and_true, true_and] at hl
    rw [Tryz.ntmps12]
    refine ex_start ?_
    simp (config := { maxSteps := 1000000 }) +decide only [NoH, Old, OldL, nilQ, nilA, asgn, nz, RechL, ReY, isNew, stepO, XPost, postN, XOk, updN, updU, isEff, avalue, aeff, ASt.eval, ASt.put, ASt.set, ASt.new, Nat.reduceDiv, Nat.reduceAdd, Int.reduceToNat, absV, absC, scalar, alen, acap, conc, flats, live, blkOf, aload, rd, part?, afieldAddr, afield, aindexAddr, cellsOf, afill, places, abuild, optI, asliceV, asliceS, szOk, srcCells, aappend, acopy, astore, amakeSlice, abuildSlice, snapL, mapO, treeL, AVal.tree, AVal.flatT, isFlat, ares, isFz, afroz, afrozB, lookupA, lookupH, tops, if_true, if_false, reduceCtorEq, forall_const, ite_true, ite_false, implies_true, walkS, tabS, Tryz.results12, eq_true e]
theorem den_SameTer (s w h : Int) (hs cl : List Int) : Den Tryz.prog 26 [terV s w h hs cl, terV s w h hs cl] (.b true) := by
  refine den_of_awpG (ghs [] [2, 3]) Tryz.func26 rfl (by kernel_rfl) (Nat.le_of_ble_eq_true rfl) (by simp only [treeL, AVal.tree, treeL_i, treeL_ints, treeL_u8, treeL_append, Bool.and_self, Bool.and_true, Bool.true_and]) (by first | rfl | simp only [treeL, AVal.tree, treeL_i, treeL_ints, treeL_u8, treeL_append, Bool.and_self, Bool.and_true, Bool.true_and]) mixed (by kernel_rfl) fun hl => ?_
  simp only [lensL, lens, lensL_i, lensL_mapC, maxI, and_true, true_and] at hl
  rw [Tryz.ntmps26]
  refine ex_start ?_
  simp (config := { maxSteps := 1000000 }) +decide only [NoH, Old, OldL, nilQ, nilA, asgn, nz, RechL, ReY, isNew, stepO, XPost, postN, XOk, updN, updU, isEff, avalue, aeff, ASt.eval, ASt.put, ASt.set, ASt.new, Nat.reduceDiv, Nat.reduceAdd, Int.reduceToNat, absV, absC, scalar, alen, acap, conc, flats, live, blkOf, aload, rd, part?, afieldAddr, afield, aindexAddr, cellsOf, afill, places, abuild, optI, asliceV, asliceS, szOk, srcCells, aappend, acopy, astore, amakeSlice, abuildSlice, snapL, mapO, treeL, AVal.tree, AVal.flatT, isFlat, ares, isFz, afroz, afrozB, lookupA, lookupH, tops, if_true, if_false, reduceCtorEq, forall_const, ite_true, ite_false, implies_true, walkS, tabS, Tryz.results26]
  refine callK (den_Equal hs hs) (by first | exact .inl rfl | exact .inr rfl) ?_
  simp (config := { maxSteps := 1000000 }) +decide only [NoH, Old, OldL, nilQ, nilA, asgn, nz, RechL, ReY, isNew, stepO, XPost, postN, XOk, updN, updU, isEff, avalue, aeff, ASt.eval, ASt.put, ASt.set, ASt.new, Nat.reduceDiv, Nat.reduceAdd, Int.reduceToNat, absV, absC, scalar, alen, acap, conc, flats, live, blkOf, aload, rd, part?, afieldAddr, afield, aindexAddr, cellsOf, afill, places, abuild, optI, asliceV, asliceS, szOk, srcCells, aappend, acopy, astore, amakeSlice, abuildSlice, snapL, mapO, treeL, AVal.tree, AVal.flatT, isFlat, ares, isFz, afroz, afrozB, lookupA, lookupH, tops, if_true, if_false, reduceCtorEq, forall_const, ite_true, ite_false, implies_true, walkS, tabS, Tryz.results26]
  refine callK (den_Equal cl cl) (by first | exact .inl rfl | exact .inr rfl) ?_
  simp (config := { maxSteps := 1000000 }) +decide only [NoH, Old, OldL, nilQ, nilA, asgn, nz, RechL, ReY, isNew, stepO, XPost, postN, XOk, updN, updU, isEff, avalue, aeff, ASt.eval, ASt.put, ASt.set, ASt.new, Nat.reduceDiv, Nat.reduceAdd, Int.reduceToNat, absV, absC, scalar, alen, acap, conc, flats, live, blkOf, aload, rd, part?, afieldAddr, afield, aindexAddr, cellsOf, afill, places, abuild, optI, asliceV, asliceS, szOk, srcCells, aappend, acopy, astore, amakeSlice, abuildSlice, snapL, mapO, treeL, AVal.tree, AVal.flatT, isFlat, ares, isFz, afroz, afrozB, lookupA, lookupH, tops, if_true, if_false, reduceCtorEq, forall_const, ite_true, ite_false, implies_true, walkS, tabS, Tryz.results26]
theorem den_HeightIn (s w h : Int) (hs cl : List Int) (hT : OkTer s w h hs cl) (x y : Int) (hin : InTer s w h x y) : Den Tryz.prog 18 [terV s w h hs cl, .agg [.i x, .i y]] (.tup [.i (htV s w h hs x y), .i 0]) := by
  obtain ⟨v, c, _, h2, d⟩ := den_HeightAtAny s w h hs cl x y
  have c0 := (h2 hT).1.1 hin
  have v0 := (h2 hT).2 c0
  rw [c0, v0] at d
  exact d
theorem set_in {A : List Int} {j : Nat} {v M : Int} (h : ∀ x ∈ A, 0 ≤ x ∧ x ≤ M) (hv : 0 ≤ v ∧ v ≤ M) : ∀ x ∈ A.set j v, 0 ≤ x ∧ x ≤ M := fun x hx => by
  rcases List.mem_or_eq_of_mem_set hx with e | e
  · exact h x e
  · subst e; exact hv
theorem set_ok {s w h : Int} {hs cl : List Int} (hT : OkTer s w h hs cl) {j : Nat} {v c : Int} (hv : 0 ≤ v ∧ v ≤ 90000) (hc : 0 ≤ c ∧ c ≤ 7) : OkTer s w h (hs.set j v) (cl.set j c) := by
  obtain ⟨z, l1, l2, b1, b2⟩ := hT
  exact ⟨z, by rw [List.length_set]; exact l1, by rw [List.length_set, List.length_set]; exact l2, set_in b1 hv, set_in b2 hc⟩
theorem set_back {A : List Int} {j : Nat} (hj : j < A.length) (v : Int) : (A.set j v).set j A[j] = A := by
  rw [List.set_set, List.set_getElem_self]
/-- a grid point -/
structure GpOk (s : Int) (n m : Nat) (hs cl : List Int) (x y : Int) (j : Nat) : Prop where
  ej : y * n + x = j
  jh : j < hs.length
  jc : j < cl.length
  ah : hAt hs n x y = hs[j]
  ac : hAt cl n x y = cl[j]
  px : IntKind.i64.wrap (x * s) = x * s
  py : IntKind.i64.wrap (y * s) = y * s
  inn : InTer s n m (x * s) (y * s)
  w1 : IntKind.i64.wrap (y * n) = y * n
  w2 : IntKind.i64.wrap (y * n + x) = j
theorem gp_ok {s : Int} {n m : Nat} {hs cl : List Int} (hT : OkTer s n m hs cl) {x y : Int} (hx : 0 ≤ x ∧ x ≤ (n : Int) - 1) (hy : 0 ≤ y ∧ y ≤ (m : Int) - 1) : ∃ j, GpOk s n m hs cl x y j := by
  obtain ⟨⟨s1, s2, s3, s4, s5⟩, l1, l2, b1, b2⟩ := hT
  obtain ⟨j, jh, ej, ah⟩ := hAt_mem l1 hx hy
  obtain ⟨j2, jc, ej2, ac⟩ := hAt_mem (hs := cl) (w := n) (h := m) (by omega) hx hy
  obtain rfl : j2 = j := by omega
  have a1 := Int.mul_nonneg hx.1 (show 0 ≤ s by omega)
  have a2 := Int.mul_nonneg hy.1 (show 0 ≤ s by omega)
  have a3 := Int.mul_le_mul_of_nonneg_right hx.2 (show 0 ≤ s by omega)
  have a4 := Int.mul_le_mul_of_nonneg_right hy.2 (show 0 ≤ s by omega)
  have a5 := Int.mul_nonneg hy.1 (show (0 : Int) ≤ n by omega)
  have cb := cells_bound s2 s3
  exact ⟨j2, ej, jh, jc, ah, ac, wrap64 (by omega) (by omega), wrap64 (by omega) (by omega), ⟨⟨a1, by omega⟩, a2, by omega⟩, wrap64 (by omega) (by omega), (wrap64 (by omega) (by omega)).trans ej⟩
theorem hAt_set {s : Int} {n m : Nat} {hs cl : List Int} {x y : Int} {j : Nat} (g : GpOk s n m hs cl x y j) (v : Int) : hAt (hs.set j v) n x y = v := by
  unfold hAt
  rw [g.ej, Int.toNat_natCast]
  simp [List.getD, g.jh]
end Go.Proofs.YtiaemddmkmfijaaGreatDoor
