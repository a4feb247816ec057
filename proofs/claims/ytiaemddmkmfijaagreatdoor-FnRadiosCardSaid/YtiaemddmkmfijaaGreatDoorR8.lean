/-
  OWN WORK: the laws' own small functions: numbers that an input chooses, lengths, lists.
-/
import Derived.Test.YtiaemddmkmfijaaGreatDoorSrc
namespace Go.Proofs.YtiaemddmkmfijaaGreatDoor
open Go Go.Own Go.Proofs
set_option maxHeartbeats 4000000
set_option maxRecDepth 20000
set_option linter.unusedSimpArgs false
theorem byt8 {bs : List Int} (h : ∀ x ∈ bs, 0 ≤ x ∧ x ≤ 255) (hl : ¬ 1048576 < bs.length) : Byt bs := ⟨h, by omega⟩
theorem den_r8Long (bs ms : List Int) : Den Tryz.prog 41 [bytesV bs, bytesV ms] (.b (bp (1048576 < bs.length ∨ 1048576 < ms.length))) := by
  refine den_of_awp Tryz.func41 rfl (by kernel_rfl) (Nat.le_of_ble_eq_true rfl) (by simp only [treeL, AVal.tree, treeL_i, treeL_ints, treeL_u8, treeL_append, Bool.and_self, Bool.and_true, Bool.true_and]) (by first | rfl | simp only [treeL, AVal.tree, treeL_i, treeL_ints, treeL_u8, treeL_append, Bool.and_self, Bool.and_true, Bool.true_and]) mixed (by kernel_rfl) fun hl => ?_
  simp only [lensL, lens, lensL_i, lensL_mapC, maxI, and_true, true_and] at hl
  rw [Tryz.ntmps41]
  refine ex_start ?_
  by_cases h1 : 1048576 < bs.length
  · have h1' : (1048576 : Int) < (bs.length : Int) := by omega
    simp (config := { maxSteps := 1000000 }) +decide only [NoH, Old, OldL, nilQ, nilA, asgn, nz, RechL, ReY, isNew, stepO, XPost, postN, XOk, updN, updU, isEff, avalue, aeff, ASt.eval, ASt.put, ASt.set, ASt.new, Nat.reduceDiv, Nat.reduceAdd, Int.reduceToNat, absV, absC, scalar, alen, acap, conc, flats, live, blkOf, aload, rd, part?, afieldAddr, afield, aindexAddr, cellsOf, afill, places, abuild, optI, asliceV, asliceS, szOk, srcCells, aappend, acopy, astore, amakeSlice, abuildSlice, snapL, mapO, treeL, AVal.tree, AVal.flatT, isFlat, ares, isFz, afroz, afrozB, lookupA, lookupH, tops, if_true, if_false, reduceCtorEq, forall_const, ite_true, ite_false, implies_true, walkS, tabS, Tryz.results41, eq_true h1', eq_true h1]
  · have h1' : ¬ (1048576 : Int) < (bs.length : Int) := by omega
    by_cases h2 : 1048576 < ms.length
    · have h2' : (1048576 : Int) < (ms.length : Int) := by omega
      simp (config := { maxSteps := 1000000 }) +decide only [NoH, Old, OldL, nilQ, nilA, asgn, nz, RechL, ReY, isNew, stepO, XPost, postN, XOk, updN, updU, isEff, avalue, aeff, ASt.eval, ASt.put, ASt.set, ASt.new, Nat.reduceDiv, Nat.reduceAdd, Int.reduceToNat, absV, absC, scalar, alen, acap, conc, flats, live, blkOf, aload, rd, part?, afieldAddr, afield, aindexAddr, cellsOf, afill, places, abuild, optI, asliceV, asliceS, szOk, srcCells, aappend, acopy, astore, amakeSlice, abuildSlice, snapL, mapO, treeL, AVal.tree, AVal.flatT, isFlat, ares, isFz, afroz, afrozB, lookupA, lookupH, tops, if_true, if_false, reduceCtorEq, forall_const, ite_true, ite_false, implies_true, walkS, tabS, Tryz.results41, eq_false h1', eq_false h1, eq_true h2', eq_true h2]
    · have h2' : ¬ (1048576 : Int) < (ms.length : Int) := by omega
      simp (config := { maxSteps := 1000000 }) +decide only [NoH, Old, OldL, nilQ, nilA, asgn, nz, RechL, ReY, isNew, stepO, XPost, postN, XOk, updN, updU, isEff, avalue, aeff, ASt.eval, ASt.put, ASt.set, ASt.new, Nat.reduceDiv, Nat.reduceAdd, Int.reduceToNat, absV, absC, scalar, alen, acap, conc, flats, live, blkOf, aload, rd, part?, afieldAddr, afield, aindexAddr, cellsOf, afill, places, abuild, optI, asliceV, asliceS, szOk, srcCells, aappend, acopy, astore, amakeSlice, abuildSlice, snapL, mapO, treeL, AVal.tree, AVal.flatT, isFlat, ares, isFz, afroz, afrozB, lookupA, lookupH, tops, if_true, if_false, reduceCtorEq, forall_const, ite_true, ite_false, implies_true, walkS, tabS, Tryz.results41, eq_false h1', eq_false h1, eq_false h2', eq_false h2]
def r8V (bs : List Int) (k : Nat) (n : Int) : Int := if n ≤ 1 ∨ bs.length ≤ k then 0 else (bs.getD k 0).tmod n
theorem r8V_in {bs : List Int} (hb : Byt bs) (k : Nat) (n : Int) : 0 ≤ r8V bs k n ∧ (1 ≤ n → r8V bs k n < n) ∧ r8V bs k n ≤ 255 := by
  unfold r8V
  split
  · omega
  · rename_i h
    have hk : k < bs.length := by omega
    have h1 := hb.lo bs[k] (List.getElem_mem hk)
    have e : bs.getD k 0 = bs[k] := by simp [List.getD, hk]
    rw [e]
    have h2 := Int.tmod_nonneg n h1.1
    have h3 := Int.tmod_lt_of_pos bs[k] (b := n) (by omega)
    by_cases h4 : n ≤ 256
    · omega
    · rw [Int.tmod_eq_of_lt h1.1 (by omega)]
      omega
theorem den_r8At {bs : List Int} (hb : Byt bs) (k : Nat) (n : Int) : Den Tryz.prog 94 [bytesV bs, .i k, .i n] (.i (r8V bs k n)) := by
  refine den_of_awp Tryz.func94 rfl (by kernel_rfl) (Nat.le_of_ble_eq_true rfl) (by simp only [treeL, AVal.tree, treeL_i, treeL_ints, treeL_u8, treeL_append, Bool.and_self, Bool.and_true, Bool.true_and]) (by first | rfl | simp only [treeL, AVal.tree, treeL_i, treeL_ints, treeL_u8, treeL_append, Bool.and_self, Bool.and_true, Bool.true_and]) mixed (by kernel_rfl) fun hl => ?_
  simp only [lensL, lens, lensL_i, lensL_mapC, maxI, and_true, true_and] at hl
  rw [Tryz.ntmps94]
  refine ex_start ?_
  by_cases h1 : n ≤ 1
  · have e : r8V bs k n = 0 := if_pos (.inl h1)
    rw [e]
    simp (config := { maxSteps := 1000000 }) +decide only [NoH, Old, OldL, nilQ, nilA, asgn, nz, RechL, ReY, isNew, stepO, XPost, postN, XOk, updN, updU, isEff, avalue, aeff, ASt.eval, ASt.put, ASt.set, ASt.new, Nat.reduceDiv, Nat.reduceAdd, Int.reduceToNat, absV, absC, scalar, alen, acap, conc, flats, live, blkOf, aload, rd, part?, afieldAddr, afield, aindexAddr, cellsOf, afill, places, abuild, optI, asliceV, asliceS, szOk, srcCells, aappend, acopy, astore, amakeSlice, abuildSlice, snapL, mapO, treeL, AVal.tree, AVal.flatT, isFlat, ares, isFz, afroz, afrozB, lookupA, lookupH, tops, if_true, if_false, reduceCtorEq, forall_const, ite_true, ite_false, implies_true, walkS, tabS, Tryz.results94, h1]
  by_cases h2 : bs.length ≤ k
  · have e : r8V bs k n = 0 := if_pos (.inr h2)
    rw [e]
    simp (config := { maxSteps := 1000000 }) +decide only [NoH, Old, OldL, nilQ, nilA, asgn, nz, RechL, ReY, isNew, stepO, XPost, postN, XOk, updN, updU, isEff, avalue, aeff, ASt.eval, ASt.put, ASt.set, ASt.new, Nat.reduceDiv, Nat.reduceAdd, Int.reduceToNat, absV, absC, scalar, alen, acap, conc, flats, live, blkOf, aload, rd, part?, afieldAddr, afield, aindexAddr, cellsOf, afill, places, abuild, optI, asliceV, asliceS, szOk, srcCells, aappend, acopy, astore, amakeSlice, abuildSlice, snapL, mapO, treeL, AVal.tree, AVal.flatT, isFlat, ares, isFz, afroz, afrozB, lookupA, lookupH, tops, if_true, if_false, reduceCtorEq, forall_const, ite_true, ite_false, implies_true, walkS, tabS, Tryz.results94, h1, h2]
  have hk : k < bs.length := by omega
  have hbk := hb.lo bs[k] (List.getElem_mem hk)
  have e : r8V bs k n = bs[k].tmod n := by
    unfold r8V
    rw [if_neg (by omega)]
    simp [List.getD, hk]
  have hw : IntKind.i64.wrap bs[k] = bs[k] := wrap64 (by omega) (by omega)
  have hn : n ≠ 0 := by omega
  have c8 : semS Tryz.prog (convert 5 2 (.int .u8 bs[k])) = some (.flat (.int .i64 (IntKind.i64.wrap bs[k]))) := sem_conv _ _ (by kernel_rfl) (by kernel_rfl)
  rw [e]
  simp (config := { maxSteps := 1000000 }) +decide only [NoH, Old, OldL, nilQ, nilA, asgn, nz, RechL, ReY, isNew, stepO, XPost, postN, XOk, updN, updU, isEff, avalue, aeff, ASt.eval, ASt.put, ASt.set, ASt.new, Nat.reduceDiv, Nat.reduceAdd, Int.reduceToNat, absV, absC, scalar, alen, acap, conc, flats, live, blkOf, aload, rd, part?, afieldAddr, afield, aindexAddr, cellsOf, afill, places, abuild, optI, asliceV, asliceS, szOk, srcCells, aappend, acopy, astore, amakeSlice, abuildSlice, snapL, mapO, treeL, AVal.tree, AVal.flatT, isFlat, ares, isFz, afroz, afrozB, lookupA, lookupH, tops, if_true, if_false, reduceCtorEq, forall_const, ite_true, ite_false, implies_true, walkS, tabS, Tryz.results94, h1, h2, hk, hw, hn, c8, sem_rem]
def r8W (bs : List Int) (k : Nat) (n : Int) : Int := (256 * r8V bs k 256 + r8V bs (k + 1) 256).tmod n
theorem r8W_in {bs : List Int} (hb : Byt bs) (k : Nat) (n : Int) (hn : 1 ≤ n) : 0 ≤ r8W bs k n ∧ r8W bs k n < n := by
  have h1 := r8V_in hb k 256
  have h2 := r8V_in hb (k + 1) 256
  unfold r8W
  exact ⟨Int.tmod_nonneg n (by omega), Int.tmod_lt_of_pos _ (by omega)⟩
theorem den_r8Wide {bs : List Int} (hb : Byt bs) (k : Nat) (n : Int) (hk : k ≤ 1000000) (hn : 1 ≤ n) : Den Tryz.prog 43 [bytesV bs, .i k, .i n] (.i (r8W bs k n)) := by
  refine den_of_awp Tryz.func43 rfl (by kernel_rfl) (Nat.le_of_ble_eq_true rfl) (by simp only [treeL, AVal.tree, treeL_i, treeL_ints, treeL_u8, treeL_append, Bool.and_self, Bool.and_true, Bool.true_and]) (by first | rfl | simp only [treeL, AVal.tree, treeL_i, treeL_ints, treeL_u8, treeL_append, Bool.and_self, Bool.and_true, Bool.true_and]) mixed (by kernel_rfl) fun hl => ?_
  simp only [lensL, lens, lensL_i, lensL_mapC, maxI, and_true, true_and] at hl
  rw [Tryz.ntmps43]
  refine ex_start ?_
  have h1 := r8V_in hb k 256
  have h2 := r8V_in hb (k + 1) 256
  have hw : IntKind.i64.wrap ((k : Int) + 1) = ((k + 1 : Nat) : Int) := wrap64 (by omega) (by omega)
  have hw1 : IntKind.i64.wrap (256 * r8V bs k 256) = 256 * r8V bs k 256 := wrap64 (by omega) (by omega)
  have hw2 : IntKind.i64.wrap (256 * r8V bs k 256 + r8V bs (k + 1) 256) = 256 * r8V bs k 256 + r8V bs (k + 1) 256 := wrap64 (by omega) (by omega)
  have hn0 : n ≠ 0 := by omega
  simp (config := { maxSteps := 1000000 }) +decide only [NoH, Old, OldL, nilQ, nilA, asgn, nz, RechL, ReY, isNew, stepO, XPost, postN, XOk, updN, updU, isEff, avalue, aeff, ASt.eval, ASt.put, ASt.set, ASt.new, Nat.reduceDiv, Nat.reduceAdd, Int.reduceToNat, absV, absC, scalar, alen, acap, conc, flats, live, blkOf, aload, rd, part?, afieldAddr, afield, aindexAddr, cellsOf, afill, places, abuild, optI, asliceV, asliceS, szOk, srcCells, aappend, acopy, astore, amakeSlice, abuildSlice, snapL, mapO, treeL, AVal.tree, AVal.flatT, isFlat, ares, isFz, afroz, afrozB, lookupA, lookupH, tops, if_true, if_false, reduceCtorEq, forall_const, ite_true, ite_false, implies_true, walkS, tabS, Tryz.results43]
  refine callK (den_r8At hb k 256) (by first | exact .inl rfl | exact .inr rfl) ?_
  simp (config := { maxSteps := 1000000 }) +decide only [NoH, Old, OldL, nilQ, nilA, asgn, nz, RechL, ReY, isNew, stepO, XPost, postN, XOk, updN, updU, isEff, avalue, aeff, ASt.eval, ASt.put, ASt.set, ASt.new, Nat.reduceDiv, Nat.reduceAdd, Int.reduceToNat, absV, absC, scalar, alen, acap, conc, flats, live, blkOf, aload, rd, part?, afieldAddr, afield, aindexAddr, cellsOf, afill, places, abuild, optI, asliceV, asliceS, szOk, srcCells, aappend, acopy, astore, amakeSlice, abuildSlice, snapL, mapO, treeL, AVal.tree, AVal.flatT, isFlat, ares, isFz, afroz, afrozB, lookupA, lookupH, tops, if_true, if_false, reduceCtorEq, forall_const, ite_true, ite_false, implies_true, walkS, tabS, Tryz.results43, hw]
  refine callK (den_r8At hb (k + 1) 256) (by first | exact .inl rfl | exact .inr rfl) ?_
  simp (config := { maxSteps := 1000000 }) +decide only [NoH, Old, OldL, nilQ, nilA, asgn, nz, RechL, ReY, isNew, stepO, XPost, postN, XOk, updN, updU, isEff, avalue, aeff, ASt.eval, ASt.put, ASt.set, ASt.new, Nat.reduceDiv, Nat.reduceAdd, Int.reduceToNat, absV, absC, scalar, alen, acap, conc, flats, live, blkOf, aload, rd, part?, afieldAddr, afield, aindexAddr, cellsOf, afill, places, abuild, optI, asliceV, asliceS, szOk, srcCells, aappend, acopy, astore, amakeSlice, abuildSlice, snapL, mapO, treeL, AVal.tree, AVal.flatT, isFlat, ares, isFz, afroz, afrozB, lookupA, lookupH, tops, if_true, if_false, reduceCtorEq, forall_const, ite_true, ite_false, implies_true, walkS, tabS, Tryz.results43, hw1, hw2, hn0, sem_rem, r8W]
end Go.Proofs.YtiaemddmkmfijaaGreatDoor
