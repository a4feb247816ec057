/-
  OWN WORK: the reference's choices of channels for an item.
-/
import Derived.Test.YtkmhoebopfgpdaaPrF
namespace Go.Proofs.Ytkmhoebopfgpdaa
open Go Go.Own Go.Proofs
set_option maxHeartbeats 4000000
set_option maxRecDepth 20000
set_option linter.unusedSimpArgs false
def Near (a b d : Int) : Prop := a - b < d ∧ b - a < d
theorem den_l17Near (a b d : Int) (ha : -1000000 ≤ a ∧ a ≤ 1000000) (hb : -1000000 ≤ b ∧ b ≤ 1000000) : Den Try.prog 85 [.i a, .i b, .i d] (.b (bp (Near a b d))) := by
  refine den_of_awp Try.func85 rfl (by kernel_rfl) (Nat.le_of_ble_eq_true rfl) (by simp only [treeL, AVal.tree, treeL_i, treeL_ints, treeL_u8, treeL_append, Bool.and_self, Bool.and_true, Bool.true_and]) (by first | rfl | simp only [treeL, AVal.tree, treeL_i, treeL_ints, treeL_u8, treeL_append, Bool.and_self, Bool.and_true, Bool.true_and]) mixed (by kernel_rfl) fun hl => ?_
  simp only [lensL, lens, lensL_i, lensL_mapC, maxI, and_true, true_and] at hl
  rw [Try.ntmps85]
  refine ex_start ?_
  have w1 : IntKind.i64.wrap (a - b) = a - b := wrap64 (by omega) (by omega)
  have w2 : IntKind.i64.wrap (b - a) = b - a := wrap64 (by omega) (by omega)
  by_cases h1 : a - b < d
  · by_cases h2 : b - a < d
    · have hN : Near a b d := ⟨h1, h2⟩
      simp (config := { maxSteps := 1000000 }) +decide only [NoH, Old, OldL, nilQ, nilA, asgn, nz, RechL, ReY, isNew, stepO, XPost, postN, XOk, updN, updU, isEff, avalue, aeff, ASt.eval, ASt.put, ASt.set, ASt.new, Nat.reduceDiv, Nat.reduceAdd, Int.reduceToNat, absV, absC, scalar, alen, acap, conc, flats, live, blkOf, aload, rd, part?, afieldAddr, afield, aindexAddr, cellsOf, afill, places, abuild, optI, asliceV, asliceS, szOk, srcCells, aappend, acopy, aclear, astore, amakeSlice, abuildSlice, snapL, mapO, treeL, AVal.tree, AVal.flatT, isFlat, ares, isFz, afroz, afrozB, lookupA, lookupH, tops, if_true, if_false, reduceCtorEq, forall_const, ite_true, ite_false, implies_true, walkS, tabS, Try.results85, w1, w2, eq_true h1, eq_true h2, eq_true hN]
    · have hN : ¬ Near a b d := fun h => h2 h.2
      simp (config := { maxSteps := 1000000 }) +decide only [NoH, Old, OldL, nilQ, nilA, asgn, nz, RechL, ReY, isNew, stepO, XPost, postN, XOk, updN, updU, isEff, avalue, aeff, ASt.eval, ASt.put, ASt.set, ASt.new, Nat.reduceDiv, Nat.reduceAdd, Int.reduceToNat, absV, absC, scalar, alen, acap, conc, flats, live, blkOf, aload, rd, part?, afieldAddr, afield, aindexAddr, cellsOf, afill, places, abuild, optI, asliceV, asliceS, szOk, srcCells, aappend, acopy, aclear, astore, amakeSlice, abuildSlice, snapL, mapO, treeL, AVal.tree, AVal.flatT, isFlat, ares, isFz, afroz, afrozB, lookupA, lookupH, tops, if_true, if_false, reduceCtorEq, forall_const, ite_true, ite_false, implies_true, walkS, tabS, Try.results85, w1, w2, eq_true h1, eq_false h2, eq_false hN]
  · have hN : ¬ Near a b d := fun h => h1 h.1
    simp (config := { maxSteps := 1000000 }) +decide only [NoH, Old, OldL, nilQ, nilA, asgn, nz, RechL, ReY, isNew, stepO, XPost, postN, XOk, updN, updU, isEff, avalue, aeff, ASt.eval, ASt.put, ASt.set, ASt.new, Nat.reduceDiv, Nat.reduceAdd, Int.reduceToNat, absV, absC, scalar, alen, acap, conc, flats, live, blkOf, aload, rd, part?, afieldAddr, afield, aindexAddr, cellsOf, afill, places, abuild, optI, asliceV, asliceS, szOk, srcCells, aappend, acopy, aclear, astore, amakeSlice, abuildSlice, snapL, mapO, treeL, AVal.tree, AVal.flatT, isFlat, ares, isFz, afroz, afrozB, lookupA, lookupH, tops, if_true, if_false, reduceCtorEq, forall_const, ite_true, ite_false, implies_true, walkS, tabS, Try.results85, w1, w2, eq_false h1, eq_false hN]
/-- a channel that an item can have beside those of others -/
def Free (A : List (List Int)) (L : List Int) (it : Nat) (c : Int) : Prop := ∀ k (h : k < L.length), k ≠ it → 0 ≤ L[k] → ¬ Near c L[k] (ap A it k)
def Small (L : List Int) : Prop := ∀ k (h : k < L.length), -1 ≤ L[k] ∧ L[k] ≤ 1000
noncomputable def chs (D A : List (List Int)) (L : List Int) (it k : Nat) : List Int := ((D.getD it []).take k).filter fun c => bp (Free A L it c)
theorem chs_le (D A : List (List Int)) (L : List Int) (it k : Nat) : (chs D A L it k).length ≤ (D.getD it []).length := by
  refine Nat.le_trans (List.length_filter_le _ _) ?_
  simp; omega
end Go.Proofs.Ytkmhoebopfgpdaa
