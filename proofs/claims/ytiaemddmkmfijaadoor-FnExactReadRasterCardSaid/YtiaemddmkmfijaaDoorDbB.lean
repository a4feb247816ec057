/-
  OWN WORK: logarithms: the program's.
-/
import Derived.Test.YtiaemddmkmfijaaDoorDbA
import Derived.Test.YtiaemddmkmfijaaDoorLibA
import Derived.Test.YtiaemddmkmfijaaDoorLay
import Derived.Lib.ItoaMem
namespace Go.Proofs.YtiaemddmkmfijaaDoor
open Go Go.Own Go.Proofs Go.RowKit
open Go.Sort (grow)
set_option maxHeartbeats 4000000
set_option maxRecDepth 20000
set_option linter.unusedSimpArgs false
set_option linter.unusedVariables false
theorem pow_tab : tab_uint64pow10 = Lib.pow10Tab := by decide
theorem tab_there {w : World} {ok : Nat → Prop} (hg : Globs (treeEnv w ok)) : Lib.TabIs Tryd.prog w "internal/strconv.uint64pow10" .u64 Lib.pow10Tab := by
  obtain ⟨T, fz, h⟩ := glob_row hg (g := 1) (vs := tab_uint64pow10.map (Value.int .u64)) (by simp [GL.ex])
  unfold Lib.TabIs World.var?
  rw [show Tryd.prog.globalNamed "internal/strconv.uint64pow10" = some 1 by kernel_rfl]
  simp only [Option.bind_some, h, pow_tab]
theorem den_FormatInt (n : Int) (h0 : -9223372036854775808 ≤ n) (h1 : n ≤ 9223372036854775807) : Den Tryd.prog 83 [.i n, .i 10] (.s ⟨(Lib.itoa n).toArray⟩) := by
  refine ⟨⟨_, Tryd.func83, by kernel_rfl, by kernel_rfl⟩, rfl, fun w vs ok hok hg hr => ?_⟩
  obtain ⟨v, r, rfl, hv, v2, r2, rfl, hv2, rfl⟩ := hr
  have e1 : v = .int .i64 n := hv.2
  have e2 : v2 = .int .i64 10 := hv2.2
  subst e1 e2
  have h := Any.strconv_FormatInt_10 Tryd.fmt10 n h0 h1 w (tab_there hg)
  refine Calls.mono h ?_
  rintro e w' ⟨rfl, k, os, rfl⟩
  exact ⟨_, rfl, ⟨rfl, rfl⟩, ⟨rfl, rfl, rfl, by simp [grow], fun b hb => by simp only [grow]; exact Array.getElem?_append_left hb⟩⟩
theorem den_Decimal (n : Int) (h0 : -9223372036854775808 ≤ n) (h1 : n ≤ 9223372036854775807) : Den Tryd.prog 38 [.i n] (.s ⟨(Lib.itoa n).toArray⟩) := by
  refine den_of_awp Tryd.func38 rfl (by kernel_rfl) (Nat.le_of_ble_eq_true rfl) (by simp only [treeL, AVal.tree, treeL_i, treeL_ints, treeL_u8, treeL_append, Bool.and_self, Bool.and_true, Bool.true_and]) (by first | rfl | simp only [treeL, AVal.tree, treeL_i, treeL_ints, treeL_u8, treeL_append, Bool.and_self, Bool.and_true, Bool.true_and]) mixed (by kernel_rfl) fun hl => ?_
  simp only [lensL, lens, lensL_i, lensL_mapC, maxI, and_true, true_and] at hl
  rw [Tryd.ntmps38]
  refine ex_start ?_
  simp (config := { maxSteps := 1000000 }) +decide only [NoH, Old, OldL, nilQ, nilA, asgn, nz, RechL, ReY, isNew, stepO, XPost, postN, XOk, updN, updU, isEff, avalue, aeff, ASt.eval, ASt.put, ASt.set, ASt.new, Nat.reduceDiv, Nat.reduceAdd, Int.reduceToNat, absV, absC, scalar, alen, acap, conc, flats, live, blkOf, aload, rd, part?, afieldAddr, afield, aindexAddr, cellsOf, afill, places, abuild, optI, asliceV, asliceS, szOk, srcCells, aappend, acopy, astore, amakeSlice, abuildSlice, snapL, mapO, treeL, AVal.tree, AVal.flatT, isFlat, ares, isFz, afroz, afrozB, lookupA, lookupH, tops, if_true, if_false, reduceCtorEq, forall_const, ite_true, ite_false, implies_true, walkS, tabS, Tryd.results38]
  refine callK (den_FormatInt n h0 h1) (by first | exact .inl rfl | exact .inr rfl) ?_
  simp (config := { maxSteps := 1000000 }) +decide only [NoH, Old, OldL, nilQ, nilA, asgn, nz, RechL, ReY, isNew, stepO, XPost, postN, XOk, updN, updU, isEff, avalue, aeff, ASt.eval, ASt.put, ASt.set, ASt.new, Nat.reduceDiv, Nat.reduceAdd, Int.reduceToNat, absV, absC, scalar, alen, acap, conc, flats, live, blkOf, aload, rd, part?, afieldAddr, afield, aindexAddr, cellsOf, afill, places, abuild, optI, asliceV, asliceS, szOk, srcCells, aappend, acopy, astore, amakeSlice, abuildSlice, snapL, mapO, treeL, AVal.tree, AVal.flatT, isFlat, ares, isFz, afroz, afrozB, lookupA, lookupH, tops, if_true, if_false, reduceCtorEq, forall_const, ite_true, ite_false, implies_true, walkS, tabS, Tryd.results38]
abbrev scV (x : Nat × Nat) : AVal := .agg [.i x.1, .i x.2]
theorem den_times (x y : Nat × Nat) (hx : Nm x.1) (hy : Nm y.1) (hx2 : x.2 ≤ 1000000) (hy2 : y.2 ≤ 1000000) : Den Tryd.prog 113 [scV x, scV y] (scV (tm x y)) := by
  refine den_of_awpG (ghs [] [2, 3]) Tryd.func113 rfl (by kernel_rfl) (Nat.le_of_ble_eq_true rfl) (by simp only [treeL, AVal.tree, treeL_i, treeL_ints, treeL_u8, treeL_append, Bool.and_self, Bool.and_true, Bool.true_and]) (by first | rfl | simp only [treeL, AVal.tree, treeL_i, treeL_ints, treeL_u8, treeL_append, Bool.and_self, Bool.and_true, Bool.true_and]) mixed (by kernel_rfl) fun hl => ?_
  simp only [lensL, lens, lensL_i, lensL_mapC, maxI, and_true, true_and] at hl
  rw [Tryd.ntmps113]
  refine ex_start ?_
  obtain ⟨⟨_, _⟩, _, _, hp⟩ := tm_in hx hy
  have w1 : IntKind.i64.wrap ((x.1 : Int) * (y.1 : Int)) = ((x.1 * y.1 : Nat) : Int) := by
    rw [← Int.natCast_mul]
    exact wrap64 (by omega) (by omega)
  have w2 : IntKind.i64.wrap (((x.1 * y.1 : Nat) : Int).tdiv 100000000) = ((x.1 * y.1 / 100000000 : Nat) : Int) := by
    rw [Int.tdiv_eq_ediv_of_nonneg (by omega)]
    exact (wrap64 (by omega) (by omega)).trans (by omega)
  have w3 : IntKind.i64.wrap ((x.2 : Int) + (y.2 : Int)) = ((x.2 + y.2 : Nat) : Int) := wrap64 (by omega) (by omega)
  have w4 : IntKind.i64.wrap (((x.1 * y.1 / 100000000 : Nat) : Int).tdiv 10) = ((x.1 * y.1 / 100000000 / 10 : Nat) : Int) := by
    rw [Int.tdiv_eq_ediv_of_nonneg (by omega)]
    exact (wrap64 (by omega) (by omega)).trans (by omega)
  have w5 : IntKind.i64.wrap (((x.2 + y.2 : Nat) : Int) + 1) = ((x.2 + y.2 + 1 : Nat) : Int) := wrap64 (by omega) (by omega)
  by_cases hc : 1000000000 ≤ x.1 * y.1 / 100000000
  · have et : tm x y = (x.1 * y.1 / 100000000 / 10, x.2 + y.2 + 1) := if_pos hc
    have hcI : (1000000000 : Int) ≤ ((x.1 * y.1 / 100000000 : Nat) : Int) := by omega
    rw [et]
    generalize x.1 * y.1 / 100000000 / 10 = r at *
    generalize x.1 * y.1 / 100000000 = q at *
    generalize x.1 * y.1 = p at *
    simp (config := { maxSteps := 1000000 }) +decide only [NoH, Old, OldL, nilQ, nilA, asgn, nz, RechL, ReY, isNew, stepO, XPost, postN, XOk, updN, updU, isEff, avalue, aeff, ASt.eval, ASt.put, ASt.set, ASt.new, Nat.reduceDiv, Nat.reduceAdd, Int.reduceToNat, absV, absC, scalar, alen, acap, conc, flats, live, blkOf, aload, rd, part?, afieldAddr, afield, aindexAddr, cellsOf, afill, places, abuild, optI, asliceV, asliceS, szOk, srcCells, aappend, acopy, astore, amakeSlice, abuildSlice, snapL, mapO, treeL, AVal.tree, AVal.flatT, isFlat, ares, isFz, afroz, afrozB, lookupA, lookupH, tops, if_true, if_false, reduceCtorEq, forall_const, ite_true, ite_false, implies_true, walkS, tabS, Tryd.results113, w1, w2, w3, w4, w5, sem_quo, eq_true hcI]
  · have et : tm x y = (x.1 * y.1 / 100000000, x.2 + y.2) := if_neg hc
    have hcI : ¬ (1000000000 : Int) ≤ ((x.1 * y.1 / 100000000 : Nat) : Int) := by omega
    rw [et]
    generalize x.1 * y.1 / 100000000 = q at *
    generalize x.1 * y.1 = p at *
    simp (config := { maxSteps := 1000000 }) +decide only [NoH, Old, OldL, nilQ, nilA, asgn, nz, RechL, ReY, isNew, stepO, XPost, postN, XOk, updN, updU, isEff, avalue, aeff, ASt.eval, ASt.put, ASt.set, ASt.new, Nat.reduceDiv, Nat.reduceAdd, Int.reduceToNat, absV, absC, scalar, alen, acap, conc, flats, live, blkOf, aload, rd, part?, afieldAddr, afield, aindexAddr, cellsOf, afill, places, abuild, optI, asliceV, asliceS, szOk, srcCells, aappend, acopy, astore, amakeSlice, abuildSlice, snapL, mapO, treeL, AVal.tree, AVal.flatT, isFlat, ares, isFz, afroz, afrozB, lookupA, lookupH, tops, if_true, if_false, reduceCtorEq, forall_const, ite_true, ite_false, implies_true, walkS, tabS, Tryd.results113, w1, w2, w3, sem_quo, eq_false hcI]
end Go.Proofs.YtiaemddmkmfijaaDoor
