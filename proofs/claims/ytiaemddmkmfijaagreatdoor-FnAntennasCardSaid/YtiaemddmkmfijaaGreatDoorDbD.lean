/-
  OWN WORK: the least number with a property, the last distance with one.
-/
import Derived.Test.YtiaemddmkmfijaaGreatDoorDbC
import Derived.Test.YtiaemddmkmfijaaGreatDoorRt
namespace Go.Proofs.YtiaemddmkmfijaaGreatDoor
open Go Go.Own Go.Proofs
set_option maxHeartbeats 4000000
set_option maxRecDepth 20000
set_option linter.unusedSimpArgs false
set_option linter.unusedVariables false
theorem fst_ex (p : Int → Prop) : ∀ n, ∃ r, isFst p n r
  | 0 => ⟨0, Nat.le_refl _, fun i h => absurd h (Nat.not_lt_zero _), fun h => absurd h (Nat.not_lt_zero _)⟩
  | n + 1 => by
    obtain ⟨r, h1, h2, h3⟩ := fst_ex p n
    by_cases hr : r < n
    · exact ⟨r, by omega, h2, fun _ => h3 hr⟩
    · have e : r = n := by omega
      subst e
      by_cases hp : p (r : Int)
      · exact ⟨r, by omega, h2, fun _ => hp⟩
      · exact ⟨r + 1, Nat.le_refl _, fun i hi => by
          by_cases e : i = r
          · subst e; exact hp
          · exact h2 i (by omega), fun h => absurd h (Nat.lt_irrefl _)⟩
theorem den_firstIn1 (low x : Int) (f : FuncId) (cs : List AVal) (q : Int → Prop) (hcs : treeL cs = true) (hs : ∀ s, snapL s cs = some cs) (hw : IntKind.i64.wrap (low + x) = low + x) (hp : Den Tryz.prog f ([.i (low + x)] ++ cs) (.b (bp (q (low + x))))) : Den Tryz.prog 140 [.i x, .iptr [.clo f cs] 0, .iptr [.i low] 0] (.b (bp (q (low + x)))) := by
  refine den_of_awp Tryz.func140 rfl (by kernel_rfl) (Nat.le_of_ble_eq_true rfl) (by simp only [treeL, AVal.tree, treeL_i, treeL_ints, treeL_u8, treeL_append, Bool.and_self, Bool.and_true, Bool.true_and, hcs]) (by first | rfl | simp only [treeL, AVal.tree, treeL_i, treeL_ints, treeL_u8, treeL_append, Bool.and_self, Bool.and_true, Bool.true_and, hcs]) mixed (by kernel_rfl) fun hl => ?_
  simp only [lensL, lens, lensL_i, lensL_mapC, maxI, and_true, true_and] at hl
  rw [Tryz.ntmps140]
  refine ex_start ?_
  simp (config := { maxSteps := 1000000 }) +decide only [NoH, Old, OldL, nilQ, nilA, asgn, nz, RechL, ReY, isNew, stepO, XPost, postN, XOk, updN, updU, isEff, avalue, aeff, ASt.eval, ASt.put, ASt.set, ASt.new, Nat.reduceDiv, Nat.reduceAdd, Int.reduceToNat, absV, absC, scalar, alen, acap, conc, flats, live, blkOf, aload, rd, part?, afieldAddr, afield, aindexAddr, cellsOf, afill, places, abuild, optI, asliceV, asliceS, szOk, srcCells, aappend, acopy, astore, amakeSlice, abuildSlice, snapL, mapO, treeL, AVal.tree, AVal.flatT, isFlat, ares, isFz, afroz, afrozB, lookupA, lookupH, tops, if_true, if_false, reduceCtorEq, forall_const, ite_true, ite_false, implies_true, walkS, tabS, Tryz.results140, hcs, hs, hw, List.cons_append]
  refine callK (hp) (by first | exact .inl rfl | exact .inr rfl) ?_
  simp (config := { maxSteps := 1000000 }) +decide only [NoH, Old, OldL, nilQ, nilA, asgn, nz, RechL, ReY, isNew, stepO, XPost, postN, XOk, updN, updU, isEff, avalue, aeff, ASt.eval, ASt.put, ASt.set, ASt.new, Nat.reduceDiv, Nat.reduceAdd, Int.reduceToNat, absV, absC, scalar, alen, acap, conc, flats, live, blkOf, aload, rd, part?, afieldAddr, afield, aindexAddr, cellsOf, afill, places, abuild, optI, asliceV, asliceS, szOk, srcCells, aappend, acopy, astore, amakeSlice, abuildSlice, snapL, mapO, treeL, AVal.tree, AVal.flatT, isFlat, ares, isFz, afroz, afrozB, lookupA, lookupH, tops, if_true, if_false, reduceCtorEq, forall_const, ite_true, ite_false, implies_true, walkS, tabS, Tryz.results140]
theorem den_firstIn (low high : Int) (n r : Nat) (f : FuncId) (cs : List AVal) (q : Int → Prop) (hlo : -1000000 ≤ low ∧ low ≤ 1000000) (hn : high - low + 1 = n) (hn2 : n ≤ 1000000) (hcs : treeL cs = true) (hs : ∀ s, snapL s cs = some cs) (hr : isFst (fun i => q (low + i)) n r) (hmono : ∀ x y, x ≤ y → q x → q y)
    (hp : ∀ x : Nat, x < n → Den Tryz.prog f ([.i (low + x)] ++ cs) (.b (bp (q (low + x))))) : Den Tryz.prog 98 [.i low, .i high, .clo f cs] (.tup [.i (low + r), .b (bp (r < n))]) := by
  refine den_of_awpG (ghs [] [3, 5]) Tryz.func98 rfl (by kernel_rfl) (Nat.le_of_ble_eq_true rfl) (by simp only [treeL, AVal.tree, treeL_i, treeL_ints, treeL_u8, treeL_append, Bool.and_self, Bool.and_true, Bool.true_and, hcs]) (by first | rfl | simp only [treeL, AVal.tree, treeL_i, treeL_ints, treeL_u8, treeL_append, Bool.and_self, Bool.and_true, Bool.true_and, hcs]) mixed (by kernel_rfl) fun hl => ?_
  simp only [lensL, lens, lensL_i, lensL_mapC, maxI, and_true, true_and] at hl
  rw [Tryz.ntmps98]
  refine ex_start ?_
  have hrn := hr.1
  have w1 : IntKind.i64.wrap (high - low) = high - low := wrap64 (by omega) (by omega)
  have w2 : IntKind.i64.wrap (high - low + 1) = (n : Int) := (wrap64 (by omega) (by omega)).trans hn
  have w3 : IntKind.i64.wrap (low + (r : Int)) = low + r := wrap64 (by omega) (by omega)
  simp (config := { maxSteps := 1000000 }) +decide only [NoH, Old, OldL, nilQ, nilA, asgn, nz, RechL, ReY, isNew, stepO, XPost, postN, XOk, updN, updU, isEff, avalue, aeff, ASt.eval, ASt.put, ASt.set, ASt.new, Nat.reduceDiv, Nat.reduceAdd, Int.reduceToNat, absV, absC, scalar, alen, acap, conc, flats, live, blkOf, aload, rd, part?, afieldAddr, afield, aindexAddr, cellsOf, afill, places, abuild, optI, asliceV, asliceS, szOk, srcCells, aappend, acopy, astore, amakeSlice, abuildSlice, snapL, mapO, treeL, AVal.tree, AVal.flatT, isFlat, ares, isFz, afroz, afrozB, lookupA, lookupH, tops, if_true, if_false, reduceCtorEq, forall_const, ite_true, ite_false, implies_true, walkS, tabS, Tryz.results98, hcs, w1, w2]
  have hcs2 : treeL [AVal.iptr [AVal.clo f cs] 0, AVal.iptr [AVal.i low] 0] = true := by simp only [treeL, AVal.tree, hcs, Bool.and_self, Bool.and_true, Bool.true_and]
  refine callK (den_Search n r 140 [.iptr [.clo f cs] 0, .iptr [.i low] 0] (fun i => q (low + i)) (by omega) hcs2 hr (fun i k hik h => hmono _ _ (by omega) h) (fun x hx => den_firstIn1 low x f cs q hcs hs (wrap64 (by omega) (by omega)) (hp x hx)) (fun s => by simp only [snapL, snap_iptr, treeL, AVal.tree, hcs, Bool.and_self, if_true])) (by first | exact .inl rfl | exact .inr rfl) ?_
  by_cases c : r < n
  · simp (config := { maxSteps := 1000000 }) +decide only [NoH, Old, OldL, nilQ, nilA, asgn, nz, RechL, ReY, isNew, stepO, XPost, postN, XOk, updN, updU, isEff, avalue, aeff, ASt.eval, ASt.put, ASt.set, ASt.new, Nat.reduceDiv, Nat.reduceAdd, Int.reduceToNat, absV, absC, scalar, alen, acap, conc, flats, live, blkOf, aload, rd, part?, afieldAddr, afield, aindexAddr, cellsOf, afill, places, abuild, optI, asliceV, asliceS, szOk, srcCells, aappend, acopy, astore, amakeSlice, abuildSlice, snapL, mapO, treeL, AVal.tree, AVal.flatT, isFlat, ares, isFz, afroz, afrozB, lookupA, lookupH, tops, if_true, if_false, reduceCtorEq, forall_const, ite_true, ite_false, implies_true, walkS, tabS, Tryz.results98, w3, eq_true c]
  · simp (config := { maxSteps := 1000000 }) +decide only [NoH, Old, OldL, nilQ, nilA, asgn, nz, RechL, ReY, isNew, stepO, XPost, postN, XOk, updN, updU, isEff, avalue, aeff, ASt.eval, ASt.put, ASt.set, ASt.new, Nat.reduceDiv, Nat.reduceAdd, Int.reduceToNat, absV, absC, scalar, alen, acap, conc, flats, live, blkOf, aload, rd, part?, afieldAddr, afield, aindexAddr, cellsOf, afill, places, abuild, optI, asliceV, asliceS, szOk, srcCells, aappend, acopy, astore, amakeSlice, abuildSlice, snapL, mapO, treeL, AVal.tree, AVal.flatT, isFlat, ares, isFz, afroz, afrozB, lookupA, lookupH, tops, if_true, if_false, reduceCtorEq, forall_const, ite_true, ite_false, implies_true, walkS, tabS, Tryz.results98, w3, eq_false c]
theorem den_orNotFound (n : Int) (x : Bool) : Den Tryz.prog 82 [.i n, .b x] (.tup [.i (if x then n else 0), .i (if x then 0 else 3)]) := by
  refine den_of_awp Tryz.func82 rfl (by kernel_rfl) (Nat.le_of_ble_eq_true rfl) (by simp only [treeL, AVal.tree, treeL_i, treeL_ints, treeL_u8, treeL_append, Bool.and_self, Bool.and_true, Bool.true_and]) (by first | rfl | simp only [treeL, AVal.tree, treeL_i, treeL_ints, treeL_u8, treeL_append, Bool.and_self, Bool.and_true, Bool.true_and]) mixed (by kernel_rfl) fun hl => ?_
  simp only [lensL, lens, lensL_i, lensL_mapC, maxI, and_true, true_and] at hl
  rw [Tryz.ntmps82]
  refine ex_start ?_
  cases x
  · simp (config := { maxSteps := 1000000 }) +decide only [NoH, Old, OldL, nilQ, nilA, asgn, nz, RechL, ReY, isNew, stepO, XPost, postN, XOk, updN, updU, isEff, avalue, aeff, ASt.eval, ASt.put, ASt.set, ASt.new, Nat.reduceDiv, Nat.reduceAdd, Int.reduceToNat, absV, absC, scalar, alen, acap, conc, flats, live, blkOf, aload, rd, part?, afieldAddr, afield, aindexAddr, cellsOf, afill, places, abuild, optI, asliceV, asliceS, szOk, srcCells, aappend, acopy, astore, amakeSlice, abuildSlice, snapL, mapO, treeL, AVal.tree, AVal.flatT, isFlat, ares, isFz, afroz, afrozB, lookupA, lookupH, tops, if_true, if_false, reduceCtorEq, forall_const, ite_true, ite_false, implies_true, walkS, tabS, Tryz.results82]
  · simp (config := { maxSteps := 1000000 }) +decide only [NoH, Old, OldL, nilQ, nilA, asgn, nz, RechL, ReY, isNew, stepO, XPost, postN, XOk, updN, updU, isEff, avalue, aeff, ASt.eval, ASt.put, ASt.set, ASt.new, Nat.reduceDiv, Nat.reduceAdd, Int.reduceToNat, absV, absC, scalar, alen, acap, conc, flats, live, blkOf, aload, rd, part?, afieldAddr, afield, aindexAddr, cellsOf, afill, places, abuild, optI, asliceV, asliceS, szOk, srcCells, aappend, acopy, astore, amakeSlice, abuildSlice, snapL, mapO, treeL, AVal.tree, AVal.flatT, isFlat, ares, isFz, afroz, afrozB, lookupA, lookupH, tops, if_true, if_false, reduceCtorEq, forall_const, ite_true, ite_false, implies_true, walkS, tabS, Tryz.results82]
/-- the greatest distance up to which it is so, and the code -/
def LastD (so : Int → Prop) (r c : Int) : Prop := (c = 0 ∧ (1 ≤ r ∧ r ≤ 283000) ∧ so r ∧ (r = 283000 ∨ ¬ so (r + 1))) ∨ (c = 3 ∧ r = 0 ∧ ¬ so 1)
end Go.Proofs.YtiaemddmkmfijaaGreatDoor
