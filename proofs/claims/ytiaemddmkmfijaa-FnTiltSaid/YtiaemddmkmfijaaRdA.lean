/-
  OWN WORK: names of radios and antennas: the tests.
-/
import Derived.Test.YtiaemddmkmfijaaTxB
import Derived.Test.YtiaemddmkmfijaaLibA
namespace Go.Proofs.Ytiaemddmkmfijaa
open Go Go.Own Go.Proofs
set_option maxHeartbeats 4000000
set_option maxRecDepth 20000
set_option linter.unusedSimpArgs false
set_option linter.unusedVariables false
/-- a small letter, a digit -/
def Lett (n : Int) : Prop := 97 ≤ n ∧ n ≤ 122
def Digi (n : Int) : Prop := 48 ≤ n ∧ n ≤ 57
def NmC (c : UInt8) : Prop := Lett (c.toNat : Nat) ∨ Digi (c.toNat : Nat)
/-- a name -/
def NmOk (l : List UInt8) : Prop := (1 ≤ l.length ∧ l.length ≤ 10) ∧ Lett ((l.getD 0 0).toNat : Nat) ∧ ∀ i (h : i < l.length), NmC l[i]
theorem den_onlyName (l : List UInt8) (hl9 : l.length ≤ 1000) : Den Try.prog 27 [.t l] (.b (bp (∀ i (h : i < l.length), NmC l[i]))) := by
  refine den_of_awp Try.func27 rfl (by kernel_rfl) (Nat.le_of_ble_eq_true rfl) (by simp only [treeL, AVal.tree, treeL_i, treeL_ints, treeL_u8, treeL_append, Bool.and_self, Bool.and_true, Bool.true_and]) (by first | rfl | simp only [treeL, AVal.tree, treeL_i, treeL_ints, treeL_u8, treeL_append, Bool.and_self, Bool.and_true, Bool.true_and]) mixed (by kernel_rfl) fun hl => ?_
  simp only [lensL, lens, lensL_i, lensL_mapC, maxI, and_true, true_and] at hl
  rw [Try.ntmps27]
  refine ex_start ?_
  have ix := fun k (hk : k < l.length) => sem_indexT Try.prog Try.underlying9 l .i64 k hk
  simp (config := { maxSteps := 1000000 }) +decide only [NoH, Old, OldL, nilQ, nilA, asgn, nz, RechL, ReY, isNew, stepO, XPost, postN, XOk, updN, updU, isEff, avalue, aeff, ASt.eval, ASt.put, ASt.set, ASt.new, Nat.reduceDiv, Nat.reduceAdd, Int.reduceToNat, absV, absC, scalar, alen, acap, conc, flats, live, blkOf, aload, rd, part?, afieldAddr, afield, aindexAddr, cellsOf, afill, places, abuild, optI, asliceV, asliceS, szOk, srcCells, aappend, acopy, astore, amakeSlice, abuildSlice, snapL, mapO, treeL, AVal.tree, AVal.flatT, isFlat, ares, isFz, afroz, afrozB, lookupA, lookupH, tops, if_true, if_false, reduceCtorEq, forall_const, ite_true, ite_false, implies_true, walkS, tabS, Try.results27, bt_size]
  refine ex_loop (fun k : {k : Nat // k ≤ l.length ∧ ∀ i (h : i < l.length), i < k → NmC l[i]} => mk [(0, .t l), (6, .i l.length), (7, .i k.1)] [] 0 28) (fun k => l.length - k.1) ⟨0, Nat.zero_le _, fun i h h0 => by omega⟩ ?_ ?_
  · refine weak_mk rfl (by first | exact Nat.le_refl _ | (simp only [mk_gen]; omega)) ?_ ?_ <;> simp +decide only [w_lookup_nil, w_lookup_cons, ch_ch, ch_lit, lit_ch, wkT, wkH, wkB, WVL, WV_refl', Int.natCast_zero, Int.natCast_add, Int.natCast_one, Nat.sub_self, Nat.sub_zero, List.replicate_zero, List.take_zero, List.nil_append, List.append_nil, fillC_zero, Nat.reduceDiv, Nat.reduceAdd, upd_bk, bk_at, getB_zero, getB_succ, modB_zero, modB_succ, rows_lit, repB_zero, repB_succ, List.length_cons, List.length_nil, upd_upd_same, upd_apply, mk_tmp, mk_heap, mk_gen, lookupA, lookupH, List.getD_cons_zero, List.getD_cons_succ, init_two, tops, Bool.true_and, and_self, and_true, true_and, true_or, if_true, if_false, ite_true, ite_false, reduceCtorEq, reduceIte]
  rintro ⟨k, k1, k2⟩
  have k1' : k ≤ l.length := k1
  have k2' : ∀ i (h : i < l.length), i < k → NmC l[i] := k2
  by_cases hlt : k < l.length
  case neg =>
    have hltI : ¬ (k : Int) < (l.length : Int) := by omega
    have all : ∀ i (h : i < l.length), NmC l[i] := fun i h => k2' i h (by omega)
    simp (config := { maxSteps := 1000000 }) +decide only [NoH, Old, OldL, nilQ, nilA, asgn, nz, RechL, ReY, isNew, stepO, XPost, postN, XOk, updN, updU, isEff, avalue, aeff, ASt.eval, ASt.put, ASt.set, ASt.new, Nat.reduceDiv, Nat.reduceAdd, Int.reduceToNat, absV, absC, scalar, alen, acap, conc, flats, live, blkOf, aload, rd, part?, afieldAddr, afield, aindexAddr, cellsOf, afill, places, abuild, optI, asliceV, asliceS, szOk, srcCells, aappend, acopy, astore, amakeSlice, abuildSlice, snapL, mapO, treeL, AVal.tree, AVal.flatT, isFlat, ares, isFz, afroz, afrozB, lookupA, lookupH, tops, if_true, if_false, reduceCtorEq, forall_const, ite_true, ite_false, implies_true, walkS, tabS, Try.results27, bt_size, eq_false hltI, eq_true all]
  have hltI : (k : Int) < (l.length : Int) := by omega
  have wk : IntKind.i64.wrap ((k : Int) + 1) = ((k + 1 : Nat) : Int) := wrap64 (by omega) (by omega)
  have ixk := ix k hlt
  have unf : NmC l[k] ↔ Lett (l[k].toNat : Nat) ∨ Digi (l[k].toNat : Nat) := Iff.rfl
  have nx : NmC l[k] → ∀ i (h : i < l.length), i < k + 1 → NmC l[i] := fun hN i h hi => by
    by_cases e : i = k
    · subst e; exact hN
    · exact k2' i h (by omega)
  have no : ¬ NmC l[k] → ¬ ∀ i (h : i < l.length), NmC l[i] := fun hN h => hN (h k hlt)
  generalize hc : ((l[k].toNat : Nat) : Int) = c at *
  unfold Lett Digi at unf
  by_cases hN : NmC l[k]
  · have nx' := nx hN
    rcases unf.1 hN with q | q
    · have a1 : ¬ c < 97 := by omega
      have a2 : ¬ 122 < c := by omega
      simp (config := { maxSteps := 1000000 }) +decide only [NoH, Old, OldL, nilQ, nilA, asgn, nz, RechL, ReY, isNew, stepO, XPost, postN, XOk, updN, updU, isEff, avalue, aeff, ASt.eval, ASt.put, ASt.set, ASt.new, Nat.reduceDiv, Nat.reduceAdd, Int.reduceToNat, absV, absC, scalar, alen, acap, conc, flats, live, blkOf, aload, rd, part?, afieldAddr, afield, aindexAddr, cellsOf, afill, places, abuild, optI, asliceV, asliceS, szOk, srcCells, aappend, acopy, astore, amakeSlice, abuildSlice, snapL, mapO, treeL, AVal.tree, AVal.flatT, isFlat, ares, isFz, afroz, afrozB, lookupA, lookupH, tops, if_true, if_false, reduceCtorEq, forall_const, ite_true, ite_false, implies_true, walkS, tabS, Try.results27, eq_true hltI, ixk, eq_false a1, eq_false a2, wk]
      refine ⟨⟨k + 1, hlt, nx'⟩, ?_, by show l.length - (k + 1) < l.length - k; omega⟩
      refine weak_mk rfl (by first | exact Nat.le_refl _ | (simp only [mk_gen]; omega)) ?_ ?_ <;> simp +decide only [w_lookup_nil, w_lookup_cons, ch_ch, ch_lit, lit_ch, wkT, wkH, wkB, WVL, WV_refl', Int.natCast_zero, Int.natCast_add, Int.natCast_one, Nat.sub_self, Nat.sub_zero, List.replicate_zero, List.take_zero, List.nil_append, List.append_nil, fillC_zero, Nat.reduceDiv, Nat.reduceAdd, upd_bk, bk_at, getB_zero, getB_succ, modB_zero, modB_succ, rows_lit, repB_zero, repB_succ, List.length_cons, List.length_nil, upd_upd_same, upd_apply, mk_tmp, mk_heap, mk_gen, lookupA, lookupH, List.getD_cons_zero, List.getD_cons_succ, init_two, tops, Bool.true_and, and_self, and_true, true_and, true_or, if_true, if_false, ite_true, ite_false, reduceCtorEq, reduceIte]
    · have a1 : c < 97 := by omega
      have b1 : ¬ c < 48 := by omega
      have b2 : ¬ 57 < c := by omega
      simp (config := { maxSteps := 1000000 }) +decide only [NoH, Old, OldL, nilQ, nilA, asgn, nz, RechL, ReY, isNew, stepO, XPost, postN, XOk, updN, updU, isEff, avalue, aeff, ASt.eval, ASt.put, ASt.set, ASt.new, Nat.reduceDiv, Nat.reduceAdd, Int.reduceToNat, absV, absC, scalar, alen, acap, conc, flats, live, blkOf, aload, rd, part?, afieldAddr, afield, aindexAddr, cellsOf, afill, places, abuild, optI, asliceV, asliceS, szOk, srcCells, aappend, acopy, astore, amakeSlice, abuildSlice, snapL, mapO, treeL, AVal.tree, AVal.flatT, isFlat, ares, isFz, afroz, afrozB, lookupA, lookupH, tops, if_true, if_false, reduceCtorEq, forall_const, ite_true, ite_false, implies_true, walkS, tabS, Try.results27, eq_true hltI, ixk, eq_true a1, eq_false b1, eq_false b2, wk]
      refine ⟨⟨k + 1, hlt, nx'⟩, ?_, by show l.length - (k + 1) < l.length - k; omega⟩
      refine weak_mk rfl (by first | exact Nat.le_refl _ | (simp only [mk_gen]; omega)) ?_ ?_ <;> simp +decide only [w_lookup_nil, w_lookup_cons, ch_ch, ch_lit, lit_ch, wkT, wkH, wkB, WVL, WV_refl', Int.natCast_zero, Int.natCast_add, Int.natCast_one, Nat.sub_self, Nat.sub_zero, List.replicate_zero, List.take_zero, List.nil_append, List.append_nil, fillC_zero, Nat.reduceDiv, Nat.reduceAdd, upd_bk, bk_at, getB_zero, getB_succ, modB_zero, modB_succ, rows_lit, repB_zero, repB_succ, List.length_cons, List.length_nil, upd_upd_same, upd_apply, mk_tmp, mk_heap, mk_gen, lookupA, lookupH, List.getD_cons_zero, List.getD_cons_succ, init_two, tops, Bool.true_and, and_self, and_true, true_and, true_or, if_true, if_false, ite_true, ite_false, reduceCtorEq, reduceIte]
  · have no' := no hN
    have un : ¬ ((97 ≤ c ∧ c ≤ 122) ∨ 48 ≤ c ∧ c ≤ 57) := fun h => hN (unf.2 h)
    by_cases b1 : c < 48
    · have a1 : c < 97 := by omega
      simp (config := { maxSteps := 1000000 }) +decide only [NoH, Old, OldL, nilQ, nilA, asgn, nz, RechL, ReY, isNew, stepO, XPost, postN, XOk, updN, updU, isEff, avalue, aeff, ASt.eval, ASt.put, ASt.set, ASt.new, Nat.reduceDiv, Nat.reduceAdd, Int.reduceToNat, absV, absC, scalar, alen, acap, conc, flats, live, blkOf, aload, rd, part?, afieldAddr, afield, aindexAddr, cellsOf, afill, places, abuild, optI, asliceV, asliceS, szOk, srcCells, aappend, acopy, astore, amakeSlice, abuildSlice, snapL, mapO, treeL, AVal.tree, AVal.flatT, isFlat, ares, isFz, afroz, afrozB, lookupA, lookupH, tops, if_true, if_false, reduceCtorEq, forall_const, ite_true, ite_false, implies_true, walkS, tabS, Try.results27, eq_true hltI, ixk, eq_true a1, eq_true b1, eq_false no']
    · by_cases a1 : c < 97
      · have b2 : 57 < c := by omega
        simp (config := { maxSteps := 1000000 }) +decide only [NoH, Old, OldL, nilQ, nilA, asgn, nz, RechL, ReY, isNew, stepO, XPost, postN, XOk, updN, updU, isEff, avalue, aeff, ASt.eval, ASt.put, ASt.set, ASt.new, Nat.reduceDiv, Nat.reduceAdd, Int.reduceToNat, absV, absC, scalar, alen, acap, conc, flats, live, blkOf, aload, rd, part?, afieldAddr, afield, aindexAddr, cellsOf, afill, places, abuild, optI, asliceV, asliceS, szOk, srcCells, aappend, acopy, astore, amakeSlice, abuildSlice, snapL, mapO, treeL, AVal.tree, AVal.flatT, isFlat, ares, isFz, afroz, afrozB, lookupA, lookupH, tops, if_true, if_false, reduceCtorEq, forall_const, ite_true, ite_false, implies_true, walkS, tabS, Try.results27, eq_true hltI, ixk, eq_true a1, eq_false b1, eq_true b2, eq_false no']
      · have a2 : 122 < c := by omega
        have b2 : 57 < c := by omega
        simp (config := { maxSteps := 1000000 }) +decide only [NoH, Old, OldL, nilQ, nilA, asgn, nz, RechL, ReY, isNew, stepO, XPost, postN, XOk, updN, updU, isEff, avalue, aeff, ASt.eval, ASt.put, ASt.set, ASt.new, Nat.reduceDiv, Nat.reduceAdd, Int.reduceToNat, absV, absC, scalar, alen, acap, conc, flats, live, blkOf, aload, rd, part?, afieldAddr, afield, aindexAddr, cellsOf, afill, places, abuild, optI, asliceV, asliceS, szOk, srcCells, aappend, acopy, astore, amakeSlice, abuildSlice, snapL, mapO, treeL, AVal.tree, AVal.flatT, isFlat, ares, isFz, afroz, afrozB, lookupA, lookupH, tops, if_true, if_false, reduceCtorEq, forall_const, ite_true, ite_false, implies_true, walkS, tabS, Try.results27, eq_true hltI, ixk, eq_false a1, eq_true a2, eq_false b1, eq_true b2, eq_false no']
theorem den_IsName (l : List UInt8) (hl9 : l.length ≤ 1000) : Den Try.prog 19 [.t l] (.b (bp (NmOk l))) := by
  refine den_of_awp Try.func19 rfl (by kernel_rfl) (Nat.le_of_ble_eq_true rfl) (by simp only [treeL, AVal.tree, treeL_i, treeL_ints, treeL_u8, treeL_append, Bool.and_self, Bool.and_true, Bool.true_and]) (by first | rfl | simp only [treeL, AVal.tree, treeL_i, treeL_ints, treeL_u8, treeL_append, Bool.and_self, Bool.and_true, Bool.true_and]) mixed (by kernel_rfl) fun hl => ?_
  simp only [lensL, lens, lensL_i, lensL_mapC, maxI, and_true, true_and] at hl
  rw [Try.ntmps19]
  refine ex_start ?_
  by_cases z : l.length < 1
  · have zI : (l.length : Int) < 1 := by omega
    have no : ¬ NmOk l := fun h => by have := h.1; omega
    simp (config := { maxSteps := 1000000 }) +decide only [NoH, Old, OldL, nilQ, nilA, asgn, nz, RechL, ReY, isNew, stepO, XPost, postN, XOk, updN, updU, isEff, avalue, aeff, ASt.eval, ASt.put, ASt.set, ASt.new, Nat.reduceDiv, Nat.reduceAdd, Int.reduceToNat, absV, absC, scalar, alen, acap, conc, flats, live, blkOf, aload, rd, part?, afieldAddr, afield, aindexAddr, cellsOf, afill, places, abuild, optI, asliceV, asliceS, szOk, srcCells, aappend, acopy, astore, amakeSlice, abuildSlice, snapL, mapO, treeL, AVal.tree, AVal.flatT, isFlat, ares, isFz, afroz, afrozB, lookupA, lookupH, tops, if_true, if_false, reduceCtorEq, forall_const, ite_true, ite_false, implies_true, walkS, tabS, Try.results19, bt_size, eq_true zI, eq_false no]
  have zI : ¬ (l.length : Int) < 1 := by omega
  by_cases t : 10 < l.length
  · have tI : (10 : Int) < (l.length : Int) := by omega
    have no : ¬ NmOk l := fun h => by have := h.1; omega
    simp (config := { maxSteps := 1000000 }) +decide only [NoH, Old, OldL, nilQ, nilA, asgn, nz, RechL, ReY, isNew, stepO, XPost, postN, XOk, updN, updU, isEff, avalue, aeff, ASt.eval, ASt.put, ASt.set, ASt.new, Nat.reduceDiv, Nat.reduceAdd, Int.reduceToNat, absV, absC, scalar, alen, acap, conc, flats, live, blkOf, aload, rd, part?, afieldAddr, afield, aindexAddr, cellsOf, afill, places, abuild, optI, asliceV, asliceS, szOk, srcCells, aappend, acopy, astore, amakeSlice, abuildSlice, snapL, mapO, treeL, AVal.tree, AVal.flatT, isFlat, ares, isFz, afroz, afrozB, lookupA, lookupH, tops, if_true, if_false, reduceCtorEq, forall_const, ite_true, ite_false, implies_true, walkS, tabS, Try.results19, bt_size, eq_false zI, eq_true tI, eq_false no]
  have tI : ¬ (10 : Int) < (l.length : Int) := by omega
  have h0 : 0 < l.length := by omega
  have ix0 := sem_indexT Try.prog Try.underlying9 l .i64 0 h0
  rw [show ((0 : Nat) : Int) = 0 from rfl] at ix0
  have g0 : l.getD 0 0 = l[0] := by simp [List.getD, h0]
  have unf : NmOk l ↔ Lett ((l[0].toNat : Nat) : Int) ∧ ∀ i (h : i < l.length), NmC l[i] := by
    unfold NmOk
    rw [g0]
    exact ⟨fun h => h.2, fun h => ⟨⟨by omega, by omega⟩, h⟩⟩
  have dn := den_onlyName l hl9
  generalize hc : ((l[0].toNat : Nat) : Int) = c at *
  unfold Lett at unf
  by_cases a1 : c < 97
  · have no : ¬ NmOk l := fun h => by have := (unf.1 h).1; omega
    simp (config := { maxSteps := 1000000 }) +decide only [NoH, Old, OldL, nilQ, nilA, asgn, nz, RechL, ReY, isNew, stepO, XPost, postN, XOk, updN, updU, isEff, avalue, aeff, ASt.eval, ASt.put, ASt.set, ASt.new, Nat.reduceDiv, Nat.reduceAdd, Int.reduceToNat, absV, absC, scalar, alen, acap, conc, flats, live, blkOf, aload, rd, part?, afieldAddr, afield, aindexAddr, cellsOf, afill, places, abuild, optI, asliceV, asliceS, szOk, srcCells, aappend, acopy, astore, amakeSlice, abuildSlice, snapL, mapO, treeL, AVal.tree, AVal.flatT, isFlat, ares, isFz, afroz, afrozB, lookupA, lookupH, tops, if_true, if_false, reduceCtorEq, forall_const, ite_true, ite_false, implies_true, walkS, tabS, Try.results19, bt_size, eq_false zI, eq_false tI, ix0, eq_true a1, eq_false no]
  by_cases a2 : 122 < c
  · have no : ¬ NmOk l := fun h => by have := (unf.1 h).1; omega
    simp (config := { maxSteps := 1000000 }) +decide only [NoH, Old, OldL, nilQ, nilA, asgn, nz, RechL, ReY, isNew, stepO, XPost, postN, XOk, updN, updU, isEff, avalue, aeff, ASt.eval, ASt.put, ASt.set, ASt.new, Nat.reduceDiv, Nat.reduceAdd, Int.reduceToNat, absV, absC, scalar, alen, acap, conc, flats, live, blkOf, aload, rd, part?, afieldAddr, afield, aindexAddr, cellsOf, afill, places, abuild, optI, asliceV, asliceS, szOk, srcCells, aappend, acopy, astore, amakeSlice, abuildSlice, snapL, mapO, treeL, AVal.tree, AVal.flatT, isFlat, ares, isFz, afroz, afrozB, lookupA, lookupH, tops, if_true, if_false, reduceCtorEq, forall_const, ite_true, ite_false, implies_true, walkS, tabS, Try.results19, bt_size, eq_false zI, eq_false tI, ix0, eq_false a1, eq_true a2, eq_false no]
  have e : bp (NmOk l) = bp (∀ i (h : i < l.length), NmC l[i]) := bp_congr ⟨fun h => (unf.1 h).2, fun h => unf.2 ⟨by omega, h⟩⟩
  rw [e]
  simp (config := { maxSteps := 1000000 }) +decide only [NoH, Old, OldL, nilQ, nilA, asgn, nz, RechL, ReY, isNew, stepO, XPost, postN, XOk, updN, updU, isEff, avalue, aeff, ASt.eval, ASt.put, ASt.set, ASt.new, Nat.reduceDiv, Nat.reduceAdd, Int.reduceToNat, absV, absC, scalar, alen, acap, conc, flats, live, blkOf, aload, rd, part?, afieldAddr, afield, aindexAddr, cellsOf, afill, places, abuild, optI, asliceV, asliceS, szOk, srcCells, aappend, acopy, astore, amakeSlice, abuildSlice, snapL, mapO, treeL, AVal.tree, AVal.flatT, isFlat, ares, isFz, afroz, afrozB, lookupA, lookupH, tops, if_true, if_false, reduceCtorEq, forall_const, ite_true, ite_false, implies_true, walkS, tabS, Try.results19, bt_size, eq_false zI, eq_false tI, ix0, eq_false a1, eq_false a2]
  refine callK (dn) (by first | exact .inl rfl | exact .inr rfl) ?_
  simp (config := { maxSteps := 1000000 }) +decide only [NoH, Old, OldL, nilQ, nilA, asgn, nz, RechL, ReY, isNew, stepO, XPost, postN, XOk, updN, updU, isEff, avalue, aeff, ASt.eval, ASt.put, ASt.set, ASt.new, Nat.reduceDiv, Nat.reduceAdd, Int.reduceToNat, absV, absC, scalar, alen, acap, conc, flats, live, blkOf, aload, rd, part?, afieldAddr, afield, aindexAddr, cellsOf, afill, places, abuild, optI, asliceV, asliceS, szOk, srcCells, aappend, acopy, astore, amakeSlice, abuildSlice, snapL, mapO, treeL, AVal.tree, AVal.flatT, isFlat, ares, isFz, afroz, afrozB, lookupA, lookupH, tops, if_true, if_false, reduceCtorEq, forall_const, ite_true, ite_false, implies_true, walkS, tabS, Try.results19]
theorem den_l01Small (c : Int) : Den Try.prog 41 [.flat (.int .u8 c)] (.b (bp (Lett c))) := by
  refine den_of_awp Try.func41 rfl (by kernel_rfl) (Nat.le_of_ble_eq_true rfl) (by simp only [treeL, AVal.tree, treeL_i, treeL_ints, treeL_u8, treeL_append, Bool.and_self, Bool.and_true, Bool.true_and]) (by first | rfl | simp only [treeL, AVal.tree, treeL_i, treeL_ints, treeL_u8, treeL_append, Bool.and_self, Bool.and_true, Bool.true_and]) mixed (by kernel_rfl) fun hl => ?_
  simp only [lensL, lens, lensL_i, lensL_mapC, maxI, and_true, true_and] at hl
  rw [Try.ntmps41]
  refine ex_start ?_
  unfold Lett
  by_cases a : 97 ≤ c
  · by_cases b : c ≤ 122
    · have k : 97 ≤ c ∧ c ≤ 122 := ⟨a, b⟩
      simp (config := { maxSteps := 1000000 }) +decide only [NoH, Old, OldL, nilQ, nilA, asgn, nz, RechL, ReY, isNew, stepO, XPost, postN, XOk, updN, updU, isEff, avalue, aeff, ASt.eval, ASt.put, ASt.set, ASt.new, Nat.reduceDiv, Nat.reduceAdd, Int.reduceToNat, absV, absC, scalar, alen, acap, conc, flats, live, blkOf, aload, rd, part?, afieldAddr, afield, aindexAddr, cellsOf, afill, places, abuild, optI, asliceV, asliceS, szOk, srcCells, aappend, acopy, astore, amakeSlice, abuildSlice, snapL, mapO, treeL, AVal.tree, AVal.flatT, isFlat, ares, isFz, afroz, afrozB, lookupA, lookupH, tops, if_true, if_false, reduceCtorEq, forall_const, ite_true, ite_false, implies_true, walkS, tabS, Try.results41, eq_true a, eq_true b]
    · simp (config := { maxSteps := 1000000 }) +decide only [NoH, Old, OldL, nilQ, nilA, asgn, nz, RechL, ReY, isNew, stepO, XPost, postN, XOk, updN, updU, isEff, avalue, aeff, ASt.eval, ASt.put, ASt.set, ASt.new, Nat.reduceDiv, Nat.reduceAdd, Int.reduceToNat, absV, absC, scalar, alen, acap, conc, flats, live, blkOf, aload, rd, part?, afieldAddr, afield, aindexAddr, cellsOf, afill, places, abuild, optI, asliceV, asliceS, szOk, srcCells, aappend, acopy, astore, amakeSlice, abuildSlice, snapL, mapO, treeL, AVal.tree, AVal.flatT, isFlat, ares, isFz, afroz, afrozB, lookupA, lookupH, tops, if_true, if_false, reduceCtorEq, forall_const, ite_true, ite_false, implies_true, walkS, tabS, Try.results41, eq_true a, eq_false b, and_false]
  · simp (config := { maxSteps := 1000000 }) +decide only [NoH, Old, OldL, nilQ, nilA, asgn, nz, RechL, ReY, isNew, stepO, XPost, postN, XOk, updN, updU, isEff, avalue, aeff, ASt.eval, ASt.put, ASt.set, ASt.new, Nat.reduceDiv, Nat.reduceAdd, Int.reduceToNat, absV, absC, scalar, alen, acap, conc, flats, live, blkOf, aload, rd, part?, afieldAddr, afield, aindexAddr, cellsOf, afill, places, abuild, optI, asliceV, asliceS, szOk, srcCells, aappend, acopy, astore, amakeSlice, abuildSlice, snapL, mapO, treeL, AVal.tree, AVal.flatT, isFlat, ares, isFz, afroz, afrozB, lookupA, lookupH, tops, if_true, if_false, reduceCtorEq, forall_const, ite_true, ite_false, implies_true, walkS, tabS, Try.results41, eq_false a, false_and]
theorem den_l01Digit (c : Int) : Den Try.prog 42 [.flat (.int .u8 c)] (.b (bp (Digi c))) := by
  refine den_of_awp Try.func42 rfl (by kernel_rfl) (Nat.le_of_ble_eq_true rfl) (by simp only [treeL, AVal.tree, treeL_i, treeL_ints, treeL_u8, treeL_append, Bool.and_self, Bool.and_true, Bool.true_and]) (by first | rfl | simp only [treeL, AVal.tree, treeL_i, treeL_ints, treeL_u8, treeL_append, Bool.and_self, Bool.and_true, Bool.true_and]) mixed (by kernel_rfl) fun hl => ?_
  simp only [lensL, lens, lensL_i, lensL_mapC, maxI, and_true, true_and] at hl
  rw [Try.ntmps42]
  refine ex_start ?_
  unfold Digi
  by_cases a : 48 ≤ c
  · by_cases b : c ≤ 57
    · simp (config := { maxSteps := 1000000 }) +decide only [NoH, Old, OldL, nilQ, nilA, asgn, nz, RechL, ReY, isNew, stepO, XPost, postN, XOk, updN, updU, isEff, avalue, aeff, ASt.eval, ASt.put, ASt.set, ASt.new, Nat.reduceDiv, Nat.reduceAdd, Int.reduceToNat, absV, absC, scalar, alen, acap, conc, flats, live, blkOf, aload, rd, part?, afieldAddr, afield, aindexAddr, cellsOf, afill, places, abuild, optI, asliceV, asliceS, szOk, srcCells, aappend, acopy, astore, amakeSlice, abuildSlice, snapL, mapO, treeL, AVal.tree, AVal.flatT, isFlat, ares, isFz, afroz, afrozB, lookupA, lookupH, tops, if_true, if_false, reduceCtorEq, forall_const, ite_true, ite_false, implies_true, walkS, tabS, Try.results42, eq_true a, eq_true b]
    · simp (config := { maxSteps := 1000000 }) +decide only [NoH, Old, OldL, nilQ, nilA, asgn, nz, RechL, ReY, isNew, stepO, XPost, postN, XOk, updN, updU, isEff, avalue, aeff, ASt.eval, ASt.put, ASt.set, ASt.new, Nat.reduceDiv, Nat.reduceAdd, Int.reduceToNat, absV, absC, scalar, alen, acap, conc, flats, live, blkOf, aload, rd, part?, afieldAddr, afield, aindexAddr, cellsOf, afill, places, abuild, optI, asliceV, asliceS, szOk, srcCells, aappend, acopy, astore, amakeSlice, abuildSlice, snapL, mapO, treeL, AVal.tree, AVal.flatT, isFlat, ares, isFz, afroz, afrozB, lookupA, lookupH, tops, if_true, if_false, reduceCtorEq, forall_const, ite_true, ite_false, implies_true, walkS, tabS, Try.results42, eq_true a, eq_false b, and_false]
  · simp (config := { maxSteps := 1000000 }) +decide only [NoH, Old, OldL, nilQ, nilA, asgn, nz, RechL, ReY, isNew, stepO, XPost, postN, XOk, updN, updU, isEff, avalue, aeff, ASt.eval, ASt.put, ASt.set, ASt.new, Nat.reduceDiv, Nat.reduceAdd, Int.reduceToNat, absV, absC, scalar, alen, acap, conc, flats, live, blkOf, aload, rd, part?, afieldAddr, afield, aindexAddr, cellsOf, afill, places, abuild, optI, asliceV, asliceS, szOk, srcCells, aappend, acopy, astore, amakeSlice, abuildSlice, snapL, mapO, treeL, AVal.tree, AVal.flatT, isFlat, ares, isFz, afroz, afrozB, lookupA, lookupH, tops, if_true, if_false, reduceCtorEq, forall_const, ite_true, ite_false, implies_true, walkS, tabS, Try.results42, eq_false a, false_and]
theorem den_l01Name (l : List UInt8) (hl9 : l.length ≤ 1000) : Den Try.prog 38 [.t l] (.b (bp (NmOk l))) := by
  refine den_of_awp Try.func38 rfl (by kernel_rfl) (Nat.le_of_ble_eq_true rfl) (by simp only [treeL, AVal.tree, treeL_i, treeL_ints, treeL_u8, treeL_append, Bool.and_self, Bool.and_true, Bool.true_and]) (by first | rfl | simp only [treeL, AVal.tree, treeL_i, treeL_ints, treeL_u8, treeL_append, Bool.and_self, Bool.and_true, Bool.true_and]) mixed (by kernel_rfl) fun hl => ?_
  simp only [lensL, lens, lensL_i, lensL_mapC, maxI, and_true, true_and] at hl
  rw [Try.ntmps38]
  refine ex_start ?_
  by_cases z : l = []
  · have no : ¬ NmOk l := fun h => by have := h.1; rw [z] at this; simp at this
    simp (config := { maxSteps := 1000000 }) +decide only [NoH, Old, OldL, nilQ, nilA, asgn, nz, RechL, ReY, isNew, stepO, XPost, postN, XOk, updN, updU, isEff, avalue, aeff, ASt.eval, ASt.put, ASt.set, ASt.new, Nat.reduceDiv, Nat.reduceAdd, Int.reduceToNat, absV, absC, scalar, alen, acap, conc, flats, live, blkOf, aload, rd, part?, afieldAddr, afield, aindexAddr, cellsOf, afill, places, abuild, optI, asliceV, asliceS, szOk, srcCells, aappend, acopy, astore, amakeSlice, abuildSlice, snapL, mapO, treeL, AVal.tree, AVal.flatT, isFlat, ares, isFz, afroz, afrozB, lookupA, lookupH, tops, if_true, if_false, reduceCtorEq, forall_const, ite_true, ite_false, implies_true, walkS, tabS, Try.results38, sem_eqlT, bt_size, eq_true z, eq_false no]
  have h0 : 0 < l.length := List.length_pos_iff.2 z
  by_cases t : 10 < l.length
  · have tI : (10 : Int) < (l.length : Int) := by omega
    have no : ¬ NmOk l := fun h => by have := h.1; omega
    simp (config := { maxSteps := 1000000 }) +decide only [NoH, Old, OldL, nilQ, nilA, asgn, nz, RechL, ReY, isNew, stepO, XPost, postN, XOk, updN, updU, isEff, avalue, aeff, ASt.eval, ASt.put, ASt.set, ASt.new, Nat.reduceDiv, Nat.reduceAdd, Int.reduceToNat, absV, absC, scalar, alen, acap, conc, flats, live, blkOf, aload, rd, part?, afieldAddr, afield, aindexAddr, cellsOf, afill, places, abuild, optI, asliceV, asliceS, szOk, srcCells, aappend, acopy, astore, amakeSlice, abuildSlice, snapL, mapO, treeL, AVal.tree, AVal.flatT, isFlat, ares, isFz, afroz, afrozB, lookupA, lookupH, tops, if_true, if_false, reduceCtorEq, forall_const, ite_true, ite_false, implies_true, walkS, tabS, Try.results38, sem_eqlT, bt_size, eq_false z, eq_true tI, eq_false no]
  have tI : ¬ (10 : Int) < (l.length : Int) := by omega
  have ix0 := sem_indexT Try.prog Try.underlying9 l .i64 0 h0
  have ix := fun k (hk : k < l.length) => sem_indexT Try.prog Try.underlying9 l .i64 k hk
  rw [show ((0 : Nat) : Int) = 0 from rfl] at ix0
  have g0 : l.getD 0 0 = l[0] := by simp [List.getD, h0]
  have unf : NmOk l ↔ Lett ((l[0].toNat : Nat) : Int) ∧ ∀ i (h : i < l.length), NmC l[i] := by
    unfold NmOk
    rw [g0]
    exact ⟨fun h => h.2, fun h => ⟨⟨by omega, by omega⟩, h⟩⟩
  have d0 := den_l01Small ((l[0].toNat : Nat) : Int)
  generalize hc : ((l[0].toNat : Nat) : Int) = c at *
  by_cases a1 : Lett c
  case neg =>
    have no : ¬ NmOk l := fun h => a1 (unf.1 h).1
    simp (config := { maxSteps := 1000000 }) +decide only [NoH, Old, OldL, nilQ, nilA, asgn, nz, RechL, ReY, isNew, stepO, XPost, postN, XOk, updN, updU, isEff, avalue, aeff, ASt.eval, ASt.put, ASt.set, ASt.new, Nat.reduceDiv, Nat.reduceAdd, Int.reduceToNat, absV, absC, scalar, alen, acap, conc, flats, live, blkOf, aload, rd, part?, afieldAddr, afield, aindexAddr, cellsOf, afill, places, abuild, optI, asliceV, asliceS, szOk, srcCells, aappend, acopy, astore, amakeSlice, abuildSlice, snapL, mapO, treeL, AVal.tree, AVal.flatT, isFlat, ares, isFz, afroz, afrozB, lookupA, lookupH, tops, if_true, if_false, reduceCtorEq, forall_const, ite_true, ite_false, implies_true, walkS, tabS, Try.results38, sem_eqlT, bt_size, eq_false z, eq_false tI, ix0]
    refine callK (d0) (by first | exact .inl rfl | exact .inr rfl) ?_
    simp (config := { maxSteps := 1000000 }) +decide only [NoH, Old, OldL, nilQ, nilA, asgn, nz, RechL, ReY, isNew, stepO, XPost, postN, XOk, updN, updU, isEff, avalue, aeff, ASt.eval, ASt.put, ASt.set, ASt.new, Nat.reduceDiv, Nat.reduceAdd, Int.reduceToNat, absV, absC, scalar, alen, acap, conc, flats, live, blkOf, aload, rd, part?, afieldAddr, afield, aindexAddr, cellsOf, afill, places, abuild, optI, asliceV, asliceS, szOk, srcCells, aappend, acopy, astore, amakeSlice, abuildSlice, snapL, mapO, treeL, AVal.tree, AVal.flatT, isFlat, ares, isFz, afroz, afrozB, lookupA, lookupH, tops, if_true, if_false, reduceCtorEq, forall_const, ite_true, ite_false, implies_true, walkS, tabS, Try.results38, eq_false a1, eq_false no]
  have e : bp (NmOk l) = bp (∀ i (h : i < l.length), NmC l[i]) := bp_congr ⟨fun h => (unf.1 h).2, fun h => unf.2 ⟨a1, h⟩⟩
  rw [e]
  simp (config := { maxSteps := 1000000 }) +decide only [NoH, Old, OldL, nilQ, nilA, asgn, nz, RechL, ReY, isNew, stepO, XPost, postN, XOk, updN, updU, isEff, avalue, aeff, ASt.eval, ASt.put, ASt.set, ASt.new, Nat.reduceDiv, Nat.reduceAdd, Int.reduceToNat, absV, absC, scalar, alen, acap, conc, flats, live, blkOf, aload, rd, part?, afieldAddr, afield, aindexAddr, cellsOf, afill, places, abuild, optI, asliceV, asliceS, szOk, srcCells, aappend, acopy, astore, amakeSlice, abuildSlice, snapL, mapO, treeL, AVal.tree, AVal.flatT, isFlat, ares, isFz, afroz, afrozB, lookupA, lookupH, tops, if_true, if_false, reduceCtorEq, forall_const, ite_true, ite_false, implies_true, walkS, tabS, Try.results38, sem_eqlT, bt_size, eq_false z, eq_false tI, ix0]
  refine callK (d0) (by first | exact .inl rfl | exact .inr rfl) ?_
  simp (config := { maxSteps := 1000000 }) +decide only [NoH, Old, OldL, nilQ, nilA, asgn, nz, RechL, ReY, isNew, stepO, XPost, postN, XOk, updN, updU, isEff, avalue, aeff, ASt.eval, ASt.put, ASt.set, ASt.new, Nat.reduceDiv, Nat.reduceAdd, Int.reduceToNat, absV, absC, scalar, alen, acap, conc, flats, live, blkOf, aload, rd, part?, afieldAddr, afield, aindexAddr, cellsOf, afill, places, abuild, optI, asliceV, asliceS, szOk, srcCells, aappend, acopy, astore, amakeSlice, abuildSlice, snapL, mapO, treeL, AVal.tree, AVal.flatT, isFlat, ares, isFz, afroz, afrozB, lookupA, lookupH, tops, if_true, if_false, reduceCtorEq, forall_const, ite_true, ite_false, implies_true, walkS, tabS, Try.results38, eq_true a1]
  refine ex_loop (fun k : {k : Nat // k ≤ l.length ∧ ∀ i (h : i < l.length), i < k → NmC l[i]} => mk [(0, .t l), (3, .i k.1)] [] 0 35) (fun k => l.length - k.1) ⟨0, Nat.zero_le _, fun i h h0 => by omega⟩ ?_ ?_
  · refine weak_mk rfl (by first | exact Nat.le_refl _ | (simp only [mk_gen]; omega)) ?_ ?_ <;> simp +decide only [w_lookup_nil, w_lookup_cons, ch_ch, ch_lit, lit_ch, wkT, wkH, wkB, WVL, WV_refl', Int.natCast_zero, Int.natCast_add, Int.natCast_one, Nat.sub_self, Nat.sub_zero, List.replicate_zero, List.take_zero, List.nil_append, List.append_nil, fillC_zero, Nat.reduceDiv, Nat.reduceAdd, upd_bk, bk_at, getB_zero, getB_succ, modB_zero, modB_succ, rows_lit, repB_zero, repB_succ, List.length_cons, List.length_nil, upd_upd_same, upd_apply, mk_tmp, mk_heap, mk_gen, lookupA, lookupH, List.getD_cons_zero, List.getD_cons_succ, init_two, tops, Bool.true_and, and_self, and_true, true_and, true_or, if_true, if_false, ite_true, ite_false, reduceCtorEq, reduceIte]
  rintro ⟨k, k1, k2⟩
  have k1' : k ≤ l.length := k1
  have k2' : ∀ i (h : i < l.length), i < k → NmC l[i] := k2
  by_cases hlt : k < l.length
  case neg =>
    have hltI : ¬ (k : Int) < (l.length : Int) := by omega
    have all : ∀ i (h : i < l.length), NmC l[i] := fun i h => k2' i h (by omega)
    simp (config := { maxSteps := 1000000 }) +decide only [NoH, Old, OldL, nilQ, nilA, asgn, nz, RechL, ReY, isNew, stepO, XPost, postN, XOk, updN, updU, isEff, avalue, aeff, ASt.eval, ASt.put, ASt.set, ASt.new, Nat.reduceDiv, Nat.reduceAdd, Int.reduceToNat, absV, absC, scalar, alen, acap, conc, flats, live, blkOf, aload, rd, part?, afieldAddr, afield, aindexAddr, cellsOf, afill, places, abuild, optI, asliceV, asliceS, szOk, srcCells, aappend, acopy, astore, amakeSlice, abuildSlice, snapL, mapO, treeL, AVal.tree, AVal.flatT, isFlat, ares, isFz, afroz, afrozB, lookupA, lookupH, tops, if_true, if_false, reduceCtorEq, forall_const, ite_true, ite_false, implies_true, walkS, tabS, Try.results38, bt_size, eq_false hltI, eq_true all]
  have hltI : (k : Int) < (l.length : Int) := by omega
  have wk : IntKind.i64.wrap ((k : Int) + 1) = ((k + 1 : Nat) : Int) := wrap64 (by omega) (by omega)
  have ixk := ix k hlt
  have dS := den_l01Small ((l[k].toNat : Nat) : Int)
  have dD := den_l01Digit ((l[k].toNat : Nat) : Int)
  have unk : NmC l[k] ↔ Lett ((l[k].toNat : Nat) : Int) ∨ Digi ((l[k].toNat : Nat) : Int) := Iff.rfl
  have nx : NmC l[k] → ∀ i (h : i < l.length), i < k + 1 → NmC l[i] := fun hN i h hi => by
    by_cases e : i = k
    · subst e; exact hN
    · exact k2' i h (by omega)
  have no : ¬ NmC l[k] → ¬ ∀ i (h : i < l.length), NmC l[i] := fun hN h => hN (h k hlt)
  generalize ((l[k].toNat : Nat) : Int) = d at *
  by_cases b1 : Lett d
  · have nx' := nx (unk.2 (.inl b1))
    simp (config := { maxSteps := 1000000 }) +decide only [NoH, Old, OldL, nilQ, nilA, asgn, nz, RechL, ReY, isNew, stepO, XPost, postN, XOk, updN, updU, isEff, avalue, aeff, ASt.eval, ASt.put, ASt.set, ASt.new, Nat.reduceDiv, Nat.reduceAdd, Int.reduceToNat, absV, absC, scalar, alen, acap, conc, flats, live, blkOf, aload, rd, part?, afieldAddr, afield, aindexAddr, cellsOf, afill, places, abuild, optI, asliceV, asliceS, szOk, srcCells, aappend, acopy, astore, amakeSlice, abuildSlice, snapL, mapO, treeL, AVal.tree, AVal.flatT, isFlat, ares, isFz, afroz, afrozB, lookupA, lookupH, tops, if_true, if_false, reduceCtorEq, forall_const, ite_true, ite_false, implies_true, walkS, tabS, Try.results38, bt_size, eq_true hltI, ixk]
    refine callK (dS) (by first | exact .inl rfl | exact .inr rfl) ?_
    simp (config := { maxSteps := 1000000 }) +decide only [NoH, Old, OldL, nilQ, nilA, asgn, nz, RechL, ReY, isNew, stepO, XPost, postN, XOk, updN, updU, isEff, avalue, aeff, ASt.eval, ASt.put, ASt.set, ASt.new, Nat.reduceDiv, Nat.reduceAdd, Int.reduceToNat, absV, absC, scalar, alen, acap, conc, flats, live, blkOf, aload, rd, part?, afieldAddr, afield, aindexAddr, cellsOf, afill, places, abuild, optI, asliceV, asliceS, szOk, srcCells, aappend, acopy, astore, amakeSlice, abuildSlice, snapL, mapO, treeL, AVal.tree, AVal.flatT, isFlat, ares, isFz, afroz, afrozB, lookupA, lookupH, tops, if_true, if_false, reduceCtorEq, forall_const, ite_true, ite_false, implies_true, walkS, tabS, Try.results38, eq_true b1, wk]
    refine ⟨⟨k + 1, hlt, nx'⟩, ?_, by show l.length - (k + 1) < l.length - k; omega⟩
    refine weak_mk rfl (by first | exact Nat.le_refl _ | (simp only [mk_gen]; omega)) ?_ ?_ <;> simp +decide only [w_lookup_nil, w_lookup_cons, ch_ch, ch_lit, lit_ch, wkT, wkH, wkB, WVL, WV_refl', Int.natCast_zero, Int.natCast_add, Int.natCast_one, Nat.sub_self, Nat.sub_zero, List.replicate_zero, List.take_zero, List.nil_append, List.append_nil, fillC_zero, Nat.reduceDiv, Nat.reduceAdd, upd_bk, bk_at, getB_zero, getB_succ, modB_zero, modB_succ, rows_lit, repB_zero, repB_succ, List.length_cons, List.length_nil, upd_upd_same, upd_apply, mk_tmp, mk_heap, mk_gen, lookupA, lookupH, List.getD_cons_zero, List.getD_cons_succ, init_two, tops, Bool.true_and, and_self, and_true, true_and, true_or, if_true, if_false, ite_true, ite_false, reduceCtorEq, reduceIte]
  by_cases b2 : Digi d
  · have nx' := nx (unk.2 (.inr b2))
    simp (config := { maxSteps := 1000000 }) +decide only [NoH, Old, OldL, nilQ, nilA, asgn, nz, RechL, ReY, isNew, stepO, XPost, postN, XOk, updN, updU, isEff, avalue, aeff, ASt.eval, ASt.put, ASt.set, ASt.new, Nat.reduceDiv, Nat.reduceAdd, Int.reduceToNat, absV, absC, scalar, alen, acap, conc, flats, live, blkOf, aload, rd, part?, afieldAddr, afield, aindexAddr, cellsOf, afill, places, abuild, optI, asliceV, asliceS, szOk, srcCells, aappend, acopy, astore, amakeSlice, abuildSlice, snapL, mapO, treeL, AVal.tree, AVal.flatT, isFlat, ares, isFz, afroz, afrozB, lookupA, lookupH, tops, if_true, if_false, reduceCtorEq, forall_const, ite_true, ite_false, implies_true, walkS, tabS, Try.results38, bt_size, eq_true hltI, ixk]
    refine callK (dS) (by first | exact .inl rfl | exact .inr rfl) ?_
    simp (config := { maxSteps := 1000000 }) +decide only [NoH, Old, OldL, nilQ, nilA, asgn, nz, RechL, ReY, isNew, stepO, XPost, postN, XOk, updN, updU, isEff, avalue, aeff, ASt.eval, ASt.put, ASt.set, ASt.new, Nat.reduceDiv, Nat.reduceAdd, Int.reduceToNat, absV, absC, scalar, alen, acap, conc, flats, live, blkOf, aload, rd, part?, afieldAddr, afield, aindexAddr, cellsOf, afill, places, abuild, optI, asliceV, asliceS, szOk, srcCells, aappend, acopy, astore, amakeSlice, abuildSlice, snapL, mapO, treeL, AVal.tree, AVal.flatT, isFlat, ares, isFz, afroz, afrozB, lookupA, lookupH, tops, if_true, if_false, reduceCtorEq, forall_const, ite_true, ite_false, implies_true, walkS, tabS, Try.results38, eq_false b1, ixk]
    refine callK (dD) (by first | exact .inl rfl | exact .inr rfl) ?_
    simp (config := { maxSteps := 1000000 }) +decide only [NoH, Old, OldL, nilQ, nilA, asgn, nz, RechL, ReY, isNew, stepO, XPost, postN, XOk, updN, updU, isEff, avalue, aeff, ASt.eval, ASt.put, ASt.set, ASt.new, Nat.reduceDiv, Nat.reduceAdd, Int.reduceToNat, absV, absC, scalar, alen, acap, conc, flats, live, blkOf, aload, rd, part?, afieldAddr, afield, aindexAddr, cellsOf, afill, places, abuild, optI, asliceV, asliceS, szOk, srcCells, aappend, acopy, astore, amakeSlice, abuildSlice, snapL, mapO, treeL, AVal.tree, AVal.flatT, isFlat, ares, isFz, afroz, afrozB, lookupA, lookupH, tops, if_true, if_false, reduceCtorEq, forall_const, ite_true, ite_false, implies_true, walkS, tabS, Try.results38, eq_true b2, wk]
    refine ⟨⟨k + 1, hlt, nx'⟩, ?_, by show l.length - (k + 1) < l.length - k; omega⟩
    refine weak_mk rfl (by first | exact Nat.le_refl _ | (simp only [mk_gen]; omega)) ?_ ?_ <;> simp +decide only [w_lookup_nil, w_lookup_cons, ch_ch, ch_lit, lit_ch, wkT, wkH, wkB, WVL, WV_refl', Int.natCast_zero, Int.natCast_add, Int.natCast_one, Nat.sub_self, Nat.sub_zero, List.replicate_zero, List.take_zero, List.nil_append, List.append_nil, fillC_zero, Nat.reduceDiv, Nat.reduceAdd, upd_bk, bk_at, getB_zero, getB_succ, modB_zero, modB_succ, rows_lit, repB_zero, repB_succ, List.length_cons, List.length_nil, upd_upd_same, upd_apply, mk_tmp, mk_heap, mk_gen, lookupA, lookupH, List.getD_cons_zero, List.getD_cons_succ, init_two, tops, Bool.true_and, and_self, and_true, true_and, true_or, if_true, if_false, ite_true, ite_false, reduceCtorEq, reduceIte]
  · have no' := no fun h => by rcases unk.1 h with h | h; exact b1 h; exact b2 h
    simp (config := { maxSteps := 1000000 }) +decide only [NoH, Old, OldL, nilQ, nilA, asgn, nz, RechL, ReY, isNew, stepO, XPost, postN, XOk, updN, updU, isEff, avalue, aeff, ASt.eval, ASt.put, ASt.set, ASt.new, Nat.reduceDiv, Nat.reduceAdd, Int.reduceToNat, absV, absC, scalar, alen, acap, conc, flats, live, blkOf, aload, rd, part?, afieldAddr, afield, aindexAddr, cellsOf, afill, places, abuild, optI, asliceV, asliceS, szOk, srcCells, aappend, acopy, astore, amakeSlice, abuildSlice, snapL, mapO, treeL, AVal.tree, AVal.flatT, isFlat, ares, isFz, afroz, afrozB, lookupA, lookupH, tops, if_true, if_false, reduceCtorEq, forall_const, ite_true, ite_false, implies_true, walkS, tabS, Try.results38, bt_size, eq_true hltI, ixk]
    refine callK (dS) (by first | exact .inl rfl | exact .inr rfl) ?_
    simp (config := { maxSteps := 1000000 }) +decide only [NoH, Old, OldL, nilQ, nilA, asgn, nz, RechL, ReY, isNew, stepO, XPost, postN, XOk, updN, updU, isEff, avalue, aeff, ASt.eval, ASt.put, ASt.set, ASt.new, Nat.reduceDiv, Nat.reduceAdd, Int.reduceToNat, absV, absC, scalar, alen, acap, conc, flats, live, blkOf, aload, rd, part?, afieldAddr, afield, aindexAddr, cellsOf, afill, places, abuild, optI, asliceV, asliceS, szOk, srcCells, aappend, acopy, astore, amakeSlice, abuildSlice, snapL, mapO, treeL, AVal.tree, AVal.flatT, isFlat, ares, isFz, afroz, afrozB, lookupA, lookupH, tops, if_true, if_false, reduceCtorEq, forall_const, ite_true, ite_false, implies_true, walkS, tabS, Try.results38, eq_false b1, ixk]
    refine callK (dD) (by first | exact .inl rfl | exact .inr rfl) ?_
    simp (config := { maxSteps := 1000000 }) +decide only [NoH, Old, OldL, nilQ, nilA, asgn, nz, RechL, ReY, isNew, stepO, XPost, postN, XOk, updN, updU, isEff, avalue, aeff, ASt.eval, ASt.put, ASt.set, ASt.new, Nat.reduceDiv, Nat.reduceAdd, Int.reduceToNat, absV, absC, scalar, alen, acap, conc, flats, live, blkOf, aload, rd, part?, afieldAddr, afield, aindexAddr, cellsOf, afill, places, abuild, optI, asliceV, asliceS, szOk, srcCells, aappend, acopy, astore, amakeSlice, abuildSlice, snapL, mapO, treeL, AVal.tree, AVal.flatT, isFlat, ares, isFz, afroz, afrozB, lookupA, lookupH, tops, if_true, if_false, reduceCtorEq, forall_const, ite_true, ite_false, implies_true, walkS, tabS, Try.results38, eq_false b2, eq_false no']
end Go.Proofs.Ytiaemddmkmfijaa
