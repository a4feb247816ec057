/-
  OWN WORK: losses in free space, fields, ranges.
-/
import Derived.Test.YtiaemddmkmfijaaDoorDbD
namespace Go.Proofs.YtiaemddmkmfijaaDoor
open Go Go.Own Go.Proofs
set_option maxHeartbeats 4000000
set_option maxRecDepth 20000
set_option linter.unusedSimpArgs false
set_option linter.unusedVariables false
/-- a logarithm, of numbers that are positive -/
def lgI (x : Int) : Int := (lgd x.toNat : Nat)
theorem lgI_in {x : Int} (h : 1 ≤ x) (h2 : x ≤ 1000000000000) : 0 ≤ lgI x ∧ lgI x < 130000 := by
  have := lgd_le (n := x.toNat) (k := 13) (by omega) (by omega)
  unfold lgI
  omega
theorem lgI_mono {x y : Int} (h : 1 ≤ x) (hxy : x ≤ y) : lgI x ≤ lgI y := by
  have := lgd_mono (n := x.toNat) (m := y.toNat) (by omega) (by omega)
  unfold lgI
  omega
theorem den_LogDbI (x : Int) (h : 1 ≤ x) (h2 : x ≤ 9223372036854775807) : Den Tryd.prog 93 [.i x] (.i (lgI x)) := by
  obtain ⟨n, rfl⟩ := Int.eq_ofNat_of_zero_le (show 0 ≤ x by omega)
  exact den_LogDb n (by omega) (by omega)
def FOk (f : Int) : Prop := 1 ≤ f ∧ f ≤ 100000000
def DOk (d : Int) : Prop := 1 ≤ d ∧ d ≤ 283000
def LOk (v : Int) : Prop := -300000 ≤ v ∧ v ≤ 300000
theorem den_ValidLevel (f : Int) : Den Tryd.prog 76 [.i f] (.b (bp (LOk f))) := by
  refine den_of_awp Tryd.func76 rfl (by kernel_rfl) (Nat.le_of_ble_eq_true rfl) (by simp only [treeL, AVal.tree, treeL_i, treeL_ints, treeL_u8, treeL_append, Bool.and_self, Bool.and_true, Bool.true_and]) (by first | rfl | simp only [treeL, AVal.tree, treeL_i, treeL_ints, treeL_u8, treeL_append, Bool.and_self, Bool.and_true, Bool.true_and]) mixed (by kernel_rfl) fun hl => ?_
  simp only [lensL, lens, lensL_i, lensL_mapC, maxI, and_true, true_and] at hl
  rw [Tryd.ntmps76]
  refine ex_start ?_
  simp (config := { maxSteps := 1000000 }) +decide only [NoH, Old, OldL, nilQ, nilA, asgn, nz, RechL, ReY, isNew, stepO, XPost, postN, XOk, updN, updU, isEff, avalue, aeff, ASt.eval, ASt.put, ASt.set, ASt.new, Nat.reduceDiv, Nat.reduceAdd, Int.reduceToNat, absV, absC, scalar, alen, acap, conc, flats, live, blkOf, aload, rd, part?, afieldAddr, afield, aindexAddr, cellsOf, afill, places, abuild, optI, asliceV, asliceS, szOk, srcCells, aappend, acopy, astore, amakeSlice, abuildSlice, snapL, mapO, treeL, AVal.tree, AVal.flatT, isFlat, ares, isFz, afroz, afrozB, lookupA, lookupH, tops, if_true, if_false, reduceCtorEq, forall_const, ite_true, ite_false, implies_true, walkS, tabS, Tryd.results76]
  refine callK (den_within f (-300000) 300000) (by first | exact .inl rfl | exact .inr rfl) ?_
  simp (config := { maxSteps := 1000000 }) +decide only [NoH, Old, OldL, nilQ, nilA, asgn, nz, RechL, ReY, isNew, stepO, XPost, postN, XOk, updN, updU, isEff, avalue, aeff, ASt.eval, ASt.put, ASt.set, ASt.new, Nat.reduceDiv, Nat.reduceAdd, Int.reduceToNat, absV, absC, scalar, alen, acap, conc, flats, live, blkOf, aload, rd, part?, afieldAddr, afield, aindexAddr, cellsOf, afill, places, abuild, optI, asliceV, asliceS, szOk, srcCells, aappend, acopy, astore, amakeSlice, abuildSlice, snapL, mapO, treeL, AVal.tree, AVal.flatT, isFlat, ares, isFz, afroz, afrozB, lookupA, lookupH, tops, if_true, if_false, reduceCtorEq, forall_const, ite_true, ite_false, implies_true, walkS, tabS, Tryd.results76]
  exact bp_congr Iff.rfl
def flo (f d : Int) : Int := max (2 * lgI d + 2 * lgI f - 87552) 0
theorem flo_mono {f d d' : Int} (hd : 1 ≤ d) (h : d ≤ d') : flo f d ≤ flo f d' := by
  have := lgI_mono hd h
  unfold flo
  omega
end Go.Proofs.YtiaemddmkmfijaaDoor
