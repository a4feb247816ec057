/-
  OWN WORK: the reference's lists of numbers, read.
-/
import Derived.Test.YtiaemddmkmfijaaDoorRrE
namespace Go.Proofs.YtiaemddmkmfijaaDoor
open Go Go.Own Go.Proofs
set_option maxHeartbeats 4000000
set_option maxRecDepth 20000
set_option linter.unusedSimpArgs false
set_option linter.unusedVariables false
def EOk (x : List UInt8) : Prop := NumOk x ∧ In12 (numV x)
def TlOk (T : List UInt8) : Prop := T = [45] ∨ (T ≠ [45] ∧ (spG 44 [] T).length ≤ 64 ∧ ∀ x ∈ spG 44 [] T, EOk x)
noncomputable def lsV (T : List UInt8) : List Int := @ite _ (TlOk T ∧ T ≠ [45]) (Classical.propDecidable _) ((spG 44 [] T).map numV) []
theorem lsV_no {T : List UInt8} (h : ¬ TlOk T) : lsV T = [] := if_neg fun k => h k.1
theorem lsV_one : lsV [45] = [] := if_neg fun k => k.2 rfl
theorem lsV_yes {T : List UInt8} (h : TlOk T) (h2 : T ≠ [45]) : lsV T = (spG 44 [] T).map numV := if_pos ⟨h, h2⟩
theorem den_specReadList (T : List UInt8) (hT : T.length ≤ 2000000) : Den Tryd.prog 59 [.t T] (.tup [ints (lsV T), .b (bp (TlOk T))]) := by
  by_cases h0 : T = [45]
  · subst h0
    have ok : TlOk [45] := .inl rfl
    rw [lsV_one]
    refine den_of_awpG (ghs [(42, 17)] [41]) Tryd.func59 rfl (by kernel_rfl) (Nat.le_of_ble_eq_true rfl) (by simp only [treeL, AVal.tree, treeL_i, treeL_ints, treeL_u8, treeL_append, Bool.and_self, Bool.and_true, Bool.true_and]) (by first | rfl | simp only [treeL, AVal.tree, treeL_i, treeL_ints, treeL_u8, treeL_append, Bool.and_self, Bool.and_true, Bool.true_and]) mixed (by kernel_rfl) fun hl => ?_
    simp only [lensL, lens, lensL_i, lensL_mapC, maxI, and_true, true_and] at hl
    rw [Tryd.ntmps59]
    refine ex_start ?_
    simp (config := { maxSteps := 1000000 }) +decide only [NoH, Old, OldL, nilQ, nilA, asgn, nz, RechL, ReY, isNew, stepO, XPost, postN, XOk, updN, updU, isEff, avalue, aeff, ASt.eval, ASt.put, ASt.set, ASt.new, Nat.reduceDiv, Nat.reduceAdd, Int.reduceToNat, absV, absC, scalar, alen, acap, conc, flats, live, blkOf, aload, rd, part?, afieldAddr, afield, aindexAddr, cellsOf, afill, places, abuild, optI, asliceV, asliceS, szOk, srcCells, aappend, acopy, astore, amakeSlice, abuildSlice, snapL, mapO, treeL, AVal.tree, AVal.flatT, isFlat, ares, isFz, afroz, afrozB, lookupA, lookupH, tops, if_true, if_false, reduceCtorEq, forall_const, ite_true, ite_false, implies_true, walkS, tabS, Tryd.results59, sem_eqlT, eq_true ok]
  have hs := den_l01Split T 44 hT
  rw [show (((44 : UInt8).toNat : Nat) : Int) = 44 from rfl] at hs
  have sl := (spG_len 44 T []).2
  have iff : TlOk T ↔ (spG 44 [] T).length ≤ 64 ∧ ∀ x ∈ spG 44 [] T, EOk x := ⟨fun h => by
    rcases h with h | h
    · exact absurd h h0
    · exact h.2, fun h => .inr ⟨h0, h⟩⟩
  have lv : TlOk T → lsV T = (spG 44 [] T).map numV := fun h => lsV_yes h h0
  have lno := @lsV_no T
  generalize hP : spG 44 [] T = P at *
  by_cases h64 : 64 < P.length
  · have h64I : (64 : Int) < (P.length : Int) := by omega
    have no : ¬ TlOk T := fun h => by have := (iff.1 h).1; omega
    rw [lno no]
    refine den_of_awpG (ghs [(42, 17)] [41]) Tryd.func59 rfl (by kernel_rfl) (Nat.le_of_ble_eq_true rfl) (by simp only [treeL, AVal.tree, treeL_i, treeL_ints, treeL_u8, treeL_append, Bool.and_self, Bool.and_true, Bool.true_and]) (by first | rfl | simp only [treeL, AVal.tree, treeL_i, treeL_ints, treeL_u8, treeL_append, Bool.and_self, Bool.and_true, Bool.true_and]) mixed (by kernel_rfl) fun hl => ?_
    simp only [lensL, lens, lensL_i, lensL_mapC, maxI, and_true, true_and] at hl
    rw [Tryd.ntmps59]
    refine ex_start ?_
    simp (config := { maxSteps := 1000000 }) +decide only [NoH, Old, OldL, nilQ, nilA, asgn, nz, RechL, ReY, isNew, stepO, XPost, postN, XOk, updN, updU, isEff, avalue, aeff, ASt.eval, ASt.put, ASt.set, ASt.new, Nat.reduceDiv, Nat.reduceAdd, Int.reduceToNat, absV, absC, scalar, alen, acap, conc, flats, live, blkOf, aload, rd, part?, afieldAddr, afield, aindexAddr, cellsOf, afill, places, abuild, optI, asliceV, asliceS, szOk, srcCells, aappend, acopy, astore, amakeSlice, abuildSlice, snapL, mapO, treeL, AVal.tree, AVal.flatT, isFlat, ares, isFz, afroz, afrozB, lookupA, lookupH, tops, if_true, if_false, reduceCtorEq, forall_const, ite_true, ite_false, implies_true, walkS, tabS, Tryd.results59, sem_eqlT, eq_false h0]
    refine callK (hs) (by first | exact .inl rfl | exact .inr rfl) ?_
    simp (config := { maxSteps := 1000000 }) +decide only [NoH, Old, OldL, nilQ, nilA, asgn, nz, RechL, ReY, isNew, stepO, XPost, postN, XOk, updN, updU, isEff, avalue, aeff, ASt.eval, ASt.put, ASt.set, ASt.new, Nat.reduceDiv, Nat.reduceAdd, Int.reduceToNat, absV, absC, scalar, alen, acap, conc, flats, live, blkOf, aload, rd, part?, afieldAddr, afield, aindexAddr, cellsOf, afill, places, abuild, optI, asliceV, asliceS, szOk, srcCells, aappend, acopy, astore, amakeSlice, abuildSlice, snapL, mapO, treeL, AVal.tree, AVal.flatT, isFlat, ares, isFz, afroz, afrozB, lookupA, lookupH, tops, if_true, if_false, reduceCtorEq, forall_const, ite_true, ite_false, implies_true, walkS, tabS, Tryd.results59, eq_true h64I, eq_false no]
  have h64I : ¬ (64 : Int) < (P.length : Int) := by omega
  have gl : (mapC AVal.t P).length = P.length := by simp [mapC]
  have lm : (P.map numV).length = P.length := by simp
  have gt : ∀ i (hi : i < P.length), (mapC AVal.t P)[i]? = some (.t P[i]) := fun i hi => by simp [mapC, hi]
  refine den_of_awpG (ghs [(42, 17)] [41]) Tryd.func59 rfl (by kernel_rfl) (Nat.le_of_ble_eq_true rfl) (by simp only [treeL, AVal.tree, treeL_i, treeL_ints, treeL_u8, treeL_append, Bool.and_self, Bool.and_true, Bool.true_and]) (by first | rfl | simp only [treeL, AVal.tree, treeL_i, treeL_ints, treeL_u8, treeL_append, Bool.and_self, Bool.and_true, Bool.true_and]) mixed (by kernel_rfl) fun hl => ?_
  simp only [lensL, lens, lensL_i, lensL_mapC, maxI, and_true, true_and] at hl
  rw [Tryd.ntmps59]
  refine ex_start ?_
  simp (config := { maxSteps := 1000000 }) +decide only [NoH, Old, OldL, nilQ, nilA, asgn, nz, RechL, ReY, isNew, stepO, XPost, postN, XOk, updN, updU, isEff, avalue, aeff, ASt.eval, ASt.put, ASt.set, ASt.new, Nat.reduceDiv, Nat.reduceAdd, Int.reduceToNat, absV, absC, scalar, alen, acap, conc, flats, live, blkOf, aload, rd, part?, afieldAddr, afield, aindexAddr, cellsOf, afill, places, abuild, optI, asliceV, asliceS, szOk, srcCells, aappend, acopy, astore, amakeSlice, abuildSlice, snapL, mapO, treeL, AVal.tree, AVal.flatT, isFlat, ares, isFz, afroz, afrozB, lookupA, lookupH, tops, if_true, if_false, reduceCtorEq, forall_const, ite_true, ite_false, implies_true, walkS, tabS, Tryd.results59, sem_eqlT, eq_false h0]
  refine callK (hs) (by first | exact .inl rfl | exact .inr rfl) ?_
  simp (config := { maxSteps := 1000000 }) +decide only [NoH, Old, OldL, nilQ, nilA, asgn, nz, RechL, ReY, isNew, stepO, XPost, postN, XOk, updN, updU, isEff, avalue, aeff, ASt.eval, ASt.put, ASt.set, ASt.new, Nat.reduceDiv, Nat.reduceAdd, Int.reduceToNat, absV, absC, scalar, alen, acap, conc, flats, live, blkOf, aload, rd, part?, afieldAddr, afield, aindexAddr, cellsOf, afill, places, abuild, optI, asliceV, asliceS, szOk, srcCells, aappend, acopy, astore, amakeSlice, abuildSlice, snapL, mapO, treeL, AVal.tree, AVal.flatT, isFlat, ares, isFz, afroz, afrozB, lookupA, lookupH, tops, if_true, if_false, reduceCtorEq, forall_const, ite_true, ite_false, implies_true, walkS, tabS, Tryd.results59, eq_false h64I]
  refine ex_loop (fun p : {p : List Int × Nat × Nat // p.1.length ≤ P.length ∧ p.1 = (P.map numV).take p.1.length ∧ ∀ i (hi : i < P.length), i < p.1.length → EOk P[i]} => mkG (ghs [(42, 17)] [41]) [(0, .t T), (4, strs P), (5, .own 17 p.1.2.1 0 p.1.1.length), (6, .i p.1.1.length)] [(17, ⟨p.1.2.1, 1, mapC AVal.i p.1.1⟩)] p.1.2.2 44) (fun p => P.length - p.1.1.length) ⟨([], 0, 1), Nat.zero_le _, by simp, by simp⟩ ?_ ?_
  · refine weak_mk rfl (by first | exact Nat.le_refl _ | (simp only [mk_gen]; omega)) ?_ ?_ <;> simp +decide only [w_lookup_nil, w_lookup_cons, ch_ch, ch_lit, lit_ch, wkT, wkH, wkB, WVL, WV_refl', Int.natCast_zero, Int.natCast_add, Int.natCast_one, Nat.sub_self, Nat.sub_zero, List.replicate_zero, List.take_zero, List.nil_append, List.append_nil, fillC_zero, Nat.reduceDiv, Nat.reduceAdd, upd_bk, bk_at, getB_zero, getB_succ, modB_zero, modB_succ, rows_lit, repB_zero, repB_succ, List.length_cons, List.length_nil, upd_upd_same, upd_apply, mk_tmp, mk_heap, mk_gen, lookupA, lookupH, List.getD_cons_zero, List.getD_cons_succ, init_two, tops, Bool.true_and, and_self, and_true, true_and, true_or, if_true, if_false, ite_true, ite_false, reduceCtorEq, reduceIte, mapC_nil, List.length_nil]
  rintro ⟨⟨L, g1, G⟩, j1, j2, j3⟩
  have j1' : L.length ≤ P.length := j1
  have j2' : L = (P.map numV).take L.length := j2
  have j3' : ∀ i (hi : i < P.length), i < L.length → EOk P[i] := j3
  have tk : L.take L.length = L := List.take_length
  by_cases hlt : L.length < P.length
  · have hltI : (L.length : Int) < (P.length : Int) := by omega
    have gtL := gt L.length hlt
    have bl := sl P[L.length] (List.getElem_mem hlt)
    have dL := den_l01Number P[L.length] (by simp at bl; omega)
    have dI := den_l00In (numV P[L.length]) (-1000000000000) 1000000000000
    have i12 : (-1000000000000 ≤ numV P[L.length] ∧ numV P[L.length] ≤ 1000000000000) = In12 (numV P[L.length]) := rfl
    rw [i12] at dI
    by_cases hN : NumOk P[L.length]
    · by_cases hI : In12 (numV P[L.length])
      · have ok : EOk P[L.length] := ⟨hN, hI⟩
        have wk : IntKind.i64.wrap ((L.length : Int) + 1) = ((L.length + 1 : Nat) : Int) := wrap64 (by omega) (by omega)
        have h8 : (L.length + 1) * 8 ≤ 140737488355328 := by omega
        have sn : mapC AVal.i L ++ [AVal.i (numV P[L.length])] = mapC AVal.i (L ++ [numV P[L.length]]) := mapC_snoc ..
        have e2 : L ++ [numV P[L.length]] = (P.map numV).take (L.length + 1) := by
          rw [List.take_succ_eq_append_getElem (by rw [lm]; exact hlt), ← j2', List.getElem_map]
        have e3 : ∀ i (hi : i < P.length), i < L.length + 1 → EOk P[i] := fun i hi hk => by
          by_cases c : i < L.length
          · exact j3' i hi c
          · have e : i = L.length := by omega
            simp only [e]
            exact ok
        simp (config := { maxSteps := 1000000 }) +decide only [NoH, Old, OldL, nilQ, nilA, asgn, nz, RechL, ReY, isNew, stepO, XPost, postN, XOk, updN, updU, isEff, avalue, aeff, ASt.eval, ASt.put, ASt.set, ASt.new, Nat.reduceDiv, Nat.reduceAdd, Int.reduceToNat, absV, absC, scalar, alen, acap, conc, flats, live, blkOf, aload, rd, part?, afieldAddr, afield, aindexAddr, cellsOf, afill, places, abuild, optI, asliceV, asliceS, szOk, srcCells, aappend, acopy, astore, amakeSlice, abuildSlice, snapL, mapO, treeL, AVal.tree, AVal.flatT, isFlat, ares, isFz, afroz, afrozB, lookupA, lookupH, tops, if_true, if_false, reduceCtorEq, forall_const, ite_true, ite_false, implies_true, walkS, tabS, Tryd.results59, eq_true hltI, hlt, gtL, gl]
        refine callK (dL) (by first | exact .inl rfl | exact .inr rfl) ?_
        simp (config := { maxSteps := 1000000 }) +decide only [NoH, Old, OldL, nilQ, nilA, asgn, nz, RechL, ReY, isNew, stepO, XPost, postN, XOk, updN, updU, isEff, avalue, aeff, ASt.eval, ASt.put, ASt.set, ASt.new, Nat.reduceDiv, Nat.reduceAdd, Int.reduceToNat, absV, absC, scalar, alen, acap, conc, flats, live, blkOf, aload, rd, part?, afieldAddr, afield, aindexAddr, cellsOf, afill, places, abuild, optI, asliceV, asliceS, szOk, srcCells, aappend, acopy, astore, amakeSlice, abuildSlice, snapL, mapO, treeL, AVal.tree, AVal.flatT, isFlat, ares, isFz, afroz, afrozB, lookupA, lookupH, tops, if_true, if_false, reduceCtorEq, forall_const, ite_true, ite_false, implies_true, walkS, tabS, Tryd.results59, eq_true hN]
        refine callK (dI) (by first | exact .inl rfl | exact .inr rfl) ?_
        simp (config := { maxSteps := 1000000 }) +decide only [NoH, Old, OldL, nilQ, nilA, asgn, nz, RechL, ReY, isNew, stepO, XPost, postN, XOk, updN, updU, isEff, avalue, aeff, ASt.eval, ASt.put, ASt.set, ASt.new, Nat.reduceDiv, Nat.reduceAdd, Int.reduceToNat, absV, absC, scalar, alen, acap, conc, flats, live, blkOf, aload, rd, part?, afieldAddr, afield, aindexAddr, cellsOf, afill, places, abuild, optI, asliceV, asliceS, szOk, srcCells, aappend, acopy, astore, amakeSlice, abuildSlice, snapL, mapO, treeL, AVal.tree, AVal.flatT, isFlat, ares, isFz, afroz, afrozB, lookupA, lookupH, tops, if_true, if_false, reduceCtorEq, forall_const, ite_true, ite_false, implies_true, walkS, tabS, Tryd.results59, eq_true hI, wk, tk, h8, sn, List.replicate_succ, List.flatten_cons, List.flatten_nil]
        refine ⟨⟨(L ++ [numV P[L.length]], G, G + 1), by show (L ++ [_]).length ≤ P.length; simp; omega, by simp only [List.length_append, List.length_singleton]; exact e2, by simp only [List.length_append, List.length_singleton]; exact e3⟩, ?_, by show P.length - (L ++ [_]).length < P.length - L.length; simp; omega⟩
        refine weak_mk rfl (by first | exact Nat.le_refl _ | (simp only [mk_gen]; omega)) ?_ ?_ <;> simp +decide only [w_lookup_nil, w_lookup_cons, ch_ch, ch_lit, lit_ch, wkT, wkH, wkB, WVL, WV_refl', Int.natCast_zero, Int.natCast_add, Int.natCast_one, Nat.sub_self, Nat.sub_zero, List.replicate_zero, List.take_zero, List.nil_append, List.append_nil, fillC_zero, Nat.reduceDiv, Nat.reduceAdd, upd_bk, bk_at, getB_zero, getB_succ, modB_zero, modB_succ, rows_lit, repB_zero, repB_succ, List.length_cons, List.length_nil, upd_upd_same, upd_apply, mk_tmp, mk_heap, mk_gen, lookupA, lookupH, List.getD_cons_zero, List.getD_cons_succ, init_two, tops, Bool.true_and, and_self, and_true, true_and, true_or, if_true, if_false, ite_true, ite_false, reduceCtorEq, reduceIte, List.length_append, List.length_cons, List.length_nil, Nat.zero_add]
      · have no : ¬ TlOk T := fun h => hI ((iff.1 h).2 _ (List.getElem_mem hlt)).2
        rw [lno no]
        simp (config := { maxSteps := 1000000 }) +decide only [NoH, Old, OldL, nilQ, nilA, asgn, nz, RechL, ReY, isNew, stepO, XPost, postN, XOk, updN, updU, isEff, avalue, aeff, ASt.eval, ASt.put, ASt.set, ASt.new, Nat.reduceDiv, Nat.reduceAdd, Int.reduceToNat, absV, absC, scalar, alen, acap, conc, flats, live, blkOf, aload, rd, part?, afieldAddr, afield, aindexAddr, cellsOf, afill, places, abuild, optI, asliceV, asliceS, szOk, srcCells, aappend, acopy, astore, amakeSlice, abuildSlice, snapL, mapO, treeL, AVal.tree, AVal.flatT, isFlat, ares, isFz, afroz, afrozB, lookupA, lookupH, tops, if_true, if_false, reduceCtorEq, forall_const, ite_true, ite_false, implies_true, walkS, tabS, Tryd.results59, eq_true hltI, hlt, gtL, gl]
        refine callK (dL) (by first | exact .inl rfl | exact .inr rfl) ?_
        simp (config := { maxSteps := 1000000 }) +decide only [NoH, Old, OldL, nilQ, nilA, asgn, nz, RechL, ReY, isNew, stepO, XPost, postN, XOk, updN, updU, isEff, avalue, aeff, ASt.eval, ASt.put, ASt.set, ASt.new, Nat.reduceDiv, Nat.reduceAdd, Int.reduceToNat, absV, absC, scalar, alen, acap, conc, flats, live, blkOf, aload, rd, part?, afieldAddr, afield, aindexAddr, cellsOf, afill, places, abuild, optI, asliceV, asliceS, szOk, srcCells, aappend, acopy, astore, amakeSlice, abuildSlice, snapL, mapO, treeL, AVal.tree, AVal.flatT, isFlat, ares, isFz, afroz, afrozB, lookupA, lookupH, tops, if_true, if_false, reduceCtorEq, forall_const, ite_true, ite_false, implies_true, walkS, tabS, Tryd.results59, eq_true hN]
        refine callK (dI) (by first | exact .inl rfl | exact .inr rfl) ?_
        simp (config := { maxSteps := 1000000 }) +decide only [NoH, Old, OldL, nilQ, nilA, asgn, nz, RechL, ReY, isNew, stepO, XPost, postN, XOk, updN, updU, isEff, avalue, aeff, ASt.eval, ASt.put, ASt.set, ASt.new, Nat.reduceDiv, Nat.reduceAdd, Int.reduceToNat, absV, absC, scalar, alen, acap, conc, flats, live, blkOf, aload, rd, part?, afieldAddr, afield, aindexAddr, cellsOf, afill, places, abuild, optI, asliceV, asliceS, szOk, srcCells, aappend, acopy, astore, amakeSlice, abuildSlice, snapL, mapO, treeL, AVal.tree, AVal.flatT, isFlat, ares, isFz, afroz, afrozB, lookupA, lookupH, tops, if_true, if_false, reduceCtorEq, forall_const, ite_true, ite_false, implies_true, walkS, tabS, Tryd.results59, eq_false hI, eq_false no]
    · have no : ¬ TlOk T := fun h => hN ((iff.1 h).2 _ (List.getElem_mem hlt)).1
      rw [lno no]
      simp (config := { maxSteps := 1000000 }) +decide only [NoH, Old, OldL, nilQ, nilA, asgn, nz, RechL, ReY, isNew, stepO, XPost, postN, XOk, updN, updU, isEff, avalue, aeff, ASt.eval, ASt.put, ASt.set, ASt.new, Nat.reduceDiv, Nat.reduceAdd, Int.reduceToNat, absV, absC, scalar, alen, acap, conc, flats, live, blkOf, aload, rd, part?, afieldAddr, afield, aindexAddr, cellsOf, afill, places, abuild, optI, asliceV, asliceS, szOk, srcCells, aappend, acopy, astore, amakeSlice, abuildSlice, snapL, mapO, treeL, AVal.tree, AVal.flatT, isFlat, ares, isFz, afroz, afrozB, lookupA, lookupH, tops, if_true, if_false, reduceCtorEq, forall_const, ite_true, ite_false, implies_true, walkS, tabS, Tryd.results59, eq_true hltI, hlt, gtL, gl]
      refine callK (dL) (by first | exact .inl rfl | exact .inr rfl) ?_
      simp (config := { maxSteps := 1000000 }) +decide only [NoH, Old, OldL, nilQ, nilA, asgn, nz, RechL, ReY, isNew, stepO, XPost, postN, XOk, updN, updU, isEff, avalue, aeff, ASt.eval, ASt.put, ASt.set, ASt.new, Nat.reduceDiv, Nat.reduceAdd, Int.reduceToNat, absV, absC, scalar, alen, acap, conc, flats, live, blkOf, aload, rd, part?, afieldAddr, afield, aindexAddr, cellsOf, afill, places, abuild, optI, asliceV, asliceS, szOk, srcCells, aappend, acopy, astore, amakeSlice, abuildSlice, snapL, mapO, treeL, AVal.tree, AVal.flatT, isFlat, ares, isFz, afroz, afrozB, lookupA, lookupH, tops, if_true, if_false, reduceCtorEq, forall_const, ite_true, ite_false, implies_true, walkS, tabS, Tryd.results59, eq_false hN, eq_false no]
  have hltI : ¬ (L.length : Int) < (P.length : Int) := by omega
  have eL : L = P.map numV := by rw [j2']; exact List.take_of_length_le (by rw [lm]; omega)
  have ok : TlOk T := iff.2 ⟨by omega, fun x hx => by
    obtain ⟨i, hi, rfl⟩ := List.getElem_of_mem hx
    exact j3' i hi (by omega)⟩
  have lvL : lsV T = L := (lv ok).trans eL.symm
  rw [lvL]
  simp (config := { maxSteps := 1000000 }) +decide only [NoH, Old, OldL, nilQ, nilA, asgn, nz, RechL, ReY, isNew, stepO, XPost, postN, XOk, updN, updU, isEff, avalue, aeff, ASt.eval, ASt.put, ASt.set, ASt.new, Nat.reduceDiv, Nat.reduceAdd, Int.reduceToNat, absV, absC, scalar, alen, acap, conc, flats, live, blkOf, aload, rd, part?, afieldAddr, afield, aindexAddr, cellsOf, afill, places, abuild, optI, asliceV, asliceS, szOk, srcCells, aappend, acopy, astore, amakeSlice, abuildSlice, snapL, mapO, treeL, AVal.tree, AVal.flatT, isFlat, ares, isFz, afroz, afrozB, lookupA, lookupH, tops, if_true, if_false, reduceCtorEq, forall_const, ite_true, ite_false, implies_true, walkS, tabS, Tryd.results59, eq_false hltI, tk, eq_true ok]
theorem list_nums {T : List UInt8} (h : TlOk T) : T = numsT (lsV T) ∧ (lsV T).length ≤ 64 ∧ ∀ x ∈ lsV T, In12 x := by
  by_cases h0 : T = [45]
  · subst h0
    rw [lsV_one]
    exact ⟨rfl, by simp, by simp⟩
  rw [lsV_yes h h0]
  rcases h with h | ⟨_, h1, h2⟩
  · exact absurd h h0
  have e : ((spG 44 [] T).map numV).map Lib.itoa = spG 44 [] T := by
    rw [List.map_map]
    conv => rhs; rw [← List.map_id (spG 44 [] T)]
    apply List.map_congr_left
    intro x hx
    exact (num_itoa (h2 x hx).1).symm
  refine ⟨?_, by simpa using h1, fun x hx => ?_⟩
  · rw [numsT_eq (by simp [spG_ne]), e, spG_join]
    rfl
  · obtain ⟨y, hy, rfl⟩ := List.mem_map.1 hx
    exact (h2 y hy).2
theorem list_of {xs : List Int} (hn : xs.length ≤ 64) (hx : ∀ x ∈ xs, In12 x) : TlOk (numsT xs) ∧ lsV (numsT xs) = xs := by
  by_cases h0 : xs = []
  · subst h0
    exact ⟨.inl rfl, lsV_one⟩
  have ne : numsT xs ≠ [45] := numsT_ne xs h0 (fun x h => by
    obtain ⟨a, b⟩ := hx x h
    have e : (10 : Nat) ^ 18 = 1000000000000000000 := by decide
    omega)
  have sp : spG 44 [] (numsT xs) = xs.map Lib.itoa := by
    rw [numsT_eq h0]
    exact spG_of_join _ (by simp [h0]) (fun x hx => by
      obtain ⟨y, _, rfl⟩ := List.mem_map.1 hx
      exact itoa_no (.inr (.inr rfl)))
  have ok : TlOk (numsT xs) := .inr ⟨ne, by rw [sp]; simpa using hn, fun x hx2 => by
    rw [sp] at hx2
    obtain ⟨y, hy, rfl⟩ := List.mem_map.1 hx2
    have := num_of (in12 (hx y hy))
    exact ⟨this.1, by rw [this.2]; exact hx y hy⟩⟩
  refine ⟨ok, ?_⟩
  rw [lsV_yes ok ne, sp, List.map_map]
  conv => rhs; rw [← List.map_id xs]
  apply List.map_congr_left
  intro x h
  exact (num_of (in12 (hx x h))).2
end Go.Proofs.YtiaemddmkmfijaaDoor
