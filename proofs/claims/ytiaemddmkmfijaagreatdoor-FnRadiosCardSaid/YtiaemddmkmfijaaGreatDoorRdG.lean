/-
  OWN WORK: radios as texts.
-/
import Derived.Test.YtiaemddmkmfijaaGreatDoorRdD
namespace Go.Proofs.YtiaemddmkmfijaaGreatDoor
open Go Go.Own Go.Proofs
set_option maxHeartbeats 4000000
set_option maxRecDepth 20000
set_option linter.unusedSimpArgs false
set_option linter.unusedVariables false
/-- a mode as text -/
def mdT (L : List Int) (k : Nat) : List UInt8 := Lib.itoa (mN L k) ++ [47] ++ Lib.itoa (mR L k)
def mdTs (L : List Int) (n : Nat) : List (List UInt8) := (List.range n).map (mdT L)
theorem mdTs_len (L : List Int) (n : Nat) : (mdTs L n).length = n := by simp [mdTs]
theorem mdTs_snoc (L : List Int) (n : Nat) : mdTs L n ++ [mdT L n] = mdTs L (n + 1) := by
  unfold mdTs
  rw [List.range_succ, List.map_append]
  rfl
/-- the words of a radio's text -/
def rdF (r : Rd) : List (List UInt8) := [r.nm, Lib.itoa r.pw, Lib.itoa r.fd, Lib.itoa r.ns, Lib.itoa r.wd, Lib.join (mdTs r.ms r.mn) [44]]
def rdT (r : Rd) : List UInt8 := Lib.join (rdF r) [32]
theorem mdT_len {r : Rd} (h : RdOk r) {k : Nat} (hk : k < r.mn) : (mdT r.ms k).length ≤ 29 := by
  obtain ⟨a, b, _⟩ := h.ms k hk
  have l1 := itoa_len12 (n := mN r.ms k) ⟨by omega, by omega⟩
  have l2 := itoa_len12 (n := mR r.ms k) ⟨by omega, by omega⟩
  unfold mdT
  simp only [List.length_append, List.length_cons, List.length_nil]
  omega
theorem mds_len {r : Rd} (h : RdOk r) : (Lib.join (mdTs r.ms r.mn) [44]).length ≤ 1000 := by
  have k := join_len 44 29 (mdTs r.ms r.mn) fun x hx => by
    obtain ⟨k, hk, rfl⟩ := List.mem_map.1 hx
    exact mdT_len h (List.mem_range.1 hk)
  rw [mdTs_len] at k
  have := h.l8
  omega
theorem rdF_len {r : Rd} (h : RdOk r) : ∀ x ∈ rdF r, x.length ≤ 1000 := by
  have a1 := h.nm.1
  have a2 := h.pw
  have a3 := h.fd
  have a4 := h.ns
  have a5 := h.wd
  have l1 := itoa_len12 (n := r.pw) ⟨by omega, by omega⟩
  have l2 := itoa_len12 (n := r.fd) ⟨by omega, by omega⟩
  have l3 := itoa_len12 (n := r.ns) ⟨by omega, by omega⟩
  have l4 := itoa_len12 (n := r.wd) ⟨by omega, by omega⟩
  have l5 := mds_len h
  intro x hx
  unfold rdF at hx
  simp only [List.mem_cons, List.not_mem_nil, or_false] at hx
  rcases hx with rfl | rfl | rfl | rfl | rfl | rfl <;> omega
theorem rdT_len {r : Rd} (h : RdOk r) : (rdT r).length ≤ 7000 := by
  have k := join_len 32 1000 (rdF r) (rdF_len h)
  have : (rdF r).length = 6 := rfl
  unfold rdT
  omega
theorem den_RadioText {r : Rd} (h : RdOk r) (hb : RdB r) : Den Tryz.prog 35 [rdV r] (.t (rdT r)) := by
  refine den_of_awpG (ghs [] [1, 25, 44]) Tryz.func35 rfl (by kernel_rfl) (Nat.le_of_ble_eq_true rfl) (by simp only [treeL, AVal.tree, treeL_i, treeL_ints, treeL_u8, treeL_append, Bool.and_self, Bool.and_true, Bool.true_and]) (by first | rfl | simp only [treeL, AVal.tree, treeL_i, treeL_ints, treeL_u8, treeL_append, Bool.and_self, Bool.and_true, Bool.true_and]) mixed (by kernel_rfl) fun hl => ?_
  simp only [lensL, lens, lensL_i, lensL_mapC, maxI, and_true, true_and] at hl
  rw [Tryz.ntmps35]
  refine ex_start ?_
  have lm := hb.lm
  have l1 := h.l1
  have l8 := h.l8
  have a2 := h.pw
  have a3 := h.fd
  have a4 := h.ns
  have a5 := h.wd
  simp (config := { maxSteps := 1000000 }) +decide only [NoH, Old, OldL, nilQ, nilA, asgn, nz, RechL, ReY, isNew, stepO, XPost, postN, XOk, updN, updU, isEff, avalue, aeff, ASt.eval, ASt.put, ASt.set, ASt.new, Nat.reduceDiv, Nat.reduceAdd, Int.reduceToNat, absV, absC, scalar, alen, acap, conc, flats, live, blkOf, aload, rd, part?, afieldAddr, afield, aindexAddr, cellsOf, afill, places, abuild, optI, asliceV, asliceS, szOk, srcCells, aappend, acopy, astore, amakeSlice, abuildSlice, snapL, mapO, treeL, AVal.tree, AVal.flatT, isFlat, ares, isFz, afroz, afrozB, lookupA, lookupH, tops, if_true, if_false, reduceCtorEq, forall_const, ite_true, ite_false, implies_true, walkS, tabS, Tryz.results35]
  refine callK (den_ValidRadio r hb) (by first | exact .inl rfl | exact .inr rfl) ?_
  simp (config := { maxSteps := 1000000 }) +decide only [NoH, Old, OldL, nilQ, nilA, asgn, nz, RechL, ReY, isNew, stepO, XPost, postN, XOk, updN, updU, isEff, avalue, aeff, ASt.eval, ASt.put, ASt.set, ASt.new, Nat.reduceDiv, Nat.reduceAdd, Int.reduceToNat, absV, absC, scalar, alen, acap, conc, flats, live, blkOf, aload, rd, part?, afieldAddr, afield, aindexAddr, cellsOf, afill, places, abuild, optI, asliceV, asliceS, szOk, srcCells, aappend, acopy, astore, amakeSlice, abuildSlice, snapL, mapO, treeL, AVal.tree, AVal.flatT, isFlat, ares, isFz, afroz, afrozB, lookupA, lookupH, tops, if_true, if_false, reduceCtorEq, forall_const, ite_true, ite_false, implies_true, walkS, tabS, Tryz.results35, eq_true h]
  refine ex_loopW (fun p : {p : Nat × Nat × Nat // p.1 ≤ r.mn} => mkG (ghs [] [1, 25, 44]) [(1, rdP r), (3, .own 26 p.1.2.1 0 p.1.1), (10, modesV r.ms r.mn), (11, .i r.mn), (12, .i p.1.1)] [(26, ⟨p.1.2.1, 1, mapC AVal.t (mdTs r.ms p.1.1)⟩)] p.1.2.2 46) (fun p => r.mn - p.1.1) ⟨(0, 0, 1), Nat.zero_le _⟩ ?_ ?_
  · have e0 : mdTs r.ms 0 = [] := rfl
    refine weak_mk rfl (by first | exact Nat.le_refl _ | (simp only [mk_gen]; omega)) ?_ ?_ <;> simp +decide only [w_lookup_nil, w_lookup_cons, ch_ch, ch_lit, lit_ch, wkT, wkH, wkB, WVL, WV_refl', Int.natCast_zero, Int.natCast_add, Int.natCast_one, Nat.sub_self, Nat.sub_zero, List.replicate_zero, List.take_zero, List.nil_append, List.append_nil, fillC_zero, Nat.reduceDiv, Nat.reduceAdd, upd_bk, bk_at, getB_zero, getB_succ, modB_zero, modB_succ, rows_lit, repB_zero, repB_succ, List.length_cons, List.length_nil, upd_upd_same, upd_apply, mk_tmp, mk_heap, mk_gen, lookupA, lookupH, List.getD_cons_zero, List.getD_cons_succ, init_two, tops, Bool.true_and, and_self, and_true, true_and, true_or, if_true, if_false, ite_true, ite_false, reduceCtorEq, reduceIte, e0, mapC_nil]
    first | exact WV_nl rfl rfl rfl rfl | exact ⟨WV_nl (blk := ⟨0, 1, []⟩) rfl rfl rfl rfl, rfl⟩
  rintro ⟨⟨k, g1, G⟩, k1⟩
  have k1' : k ≤ r.mn := k1
  have lk := mdTs_len r.ms k
  by_cases hlt : k < r.mn
  case neg =>
    have e : k = r.mn := by omega
    subst e
    have hltI : ¬ (r.mn : Int) < (r.mn : Int) := by omega
    have hj := mds_len h
    have hr := rdT_len h
    have hne : mdTs r.ms r.mn ≠ [] := fun e => by rw [e] at lk; simp at lk; omega
    have dj := den_Join (mdTs r.ms r.mn) 44 hne (by omega) (by omega)
    have dr := den_Join (rdF r) 32 (by unfold rdF; simp) (by show 6 ≤ 1000000; omega) (by show (rdT r).length ≤ _; omega)
    simp (config := { maxSteps := 1000000 }) +decide only [NoH, Old, OldL, nilQ, nilA, asgn, nz, RechL, ReY, isNew, stepO, XPost, postN, XOk, updN, updU, isEff, avalue, aeff, ASt.eval, ASt.put, ASt.set, ASt.new, Nat.reduceDiv, Nat.reduceAdd, Int.reduceToNat, absV, absC, scalar, alen, acap, conc, flats, live, blkOf, aload, rd, part?, afieldAddr, afield, aindexAddr, cellsOf, afill, places, abuild, optI, asliceV, asliceS, szOk, srcCells, aappend, acopy, astore, amakeSlice, abuildSlice, snapL, mapO, treeL, AVal.tree, AVal.flatT, isFlat, ares, isFz, afroz, afrozB, lookupA, lookupH, tops, if_true, if_false, reduceCtorEq, forall_const, ite_true, ite_false, implies_true, walkS, tabS, Tryz.results35, eq_false hltI, loopW_exit]
    refine ⟨mkG (ghs [] [1, 25, 44]) [(1, rdP r), (3, strs (mdTs r.ms r.mn))] [] G 46, .step ?_ (.refl _), ?_⟩
    · refine weak_mk rfl (by first | exact Nat.le_refl _ | (simp only [mk_gen]; omega)) ?_ ?_ <;> simp +decide only [w_lookup_nil, w_lookup_cons, ch_ch, ch_lit, lit_ch, wkT, wkH, wkB, WVL, WV_refl', Int.natCast_zero, Int.natCast_add, Int.natCast_one, Nat.sub_self, Nat.sub_zero, List.replicate_zero, List.take_zero, List.nil_append, List.append_nil, fillC_zero, Nat.reduceDiv, Nat.reduceAdd, upd_bk, bk_at, getB_zero, getB_succ, modB_zero, modB_succ, rows_lit, repB_zero, repB_succ, List.length_cons, List.length_nil, upd_upd_same, upd_apply, mk_tmp, mk_heap, mk_gen, lookupA, lookupH, List.getD_cons_zero, List.getD_cons_succ, init_two, tops, Bool.true_and, and_self, and_true, true_and, true_or, if_true, if_false, ite_true, ite_false, reduceCtorEq, reduceIte]
      have eN : strs (mdTs r.ms r.mn) = .lst (mapC AVal.t (mdTs r.ms r.mn)) r.mn := by
        show AVal.lst _ _ = _
        rw [lk]
      rw [eN]
      exact WV_frz rfl rfl rfl (by simp [mapC, lk]) (by rw [List.drop_zero]; exact (List.take_of_length_le (by simp [mapC, lk])).symm) (treeL_t _)
    · simp (config := { maxSteps := 1000000 }) +decide only [NoH, Old, OldL, nilQ, nilA, asgn, nz, RechL, ReY, isNew, stepO, XPost, postN, XOk, updN, updU, isEff, avalue, aeff, ASt.eval, ASt.put, ASt.set, ASt.new, Nat.reduceDiv, Nat.reduceAdd, Int.reduceToNat, absV, absC, scalar, alen, acap, conc, flats, live, blkOf, aload, rd, part?, afieldAddr, afield, aindexAddr, cellsOf, afill, places, abuild, optI, asliceV, asliceS, szOk, srcCells, aappend, acopy, astore, amakeSlice, abuildSlice, snapL, mapO, treeL, AVal.tree, AVal.flatT, isFlat, ares, isFz, afroz, afrozB, lookupA, lookupH, tops, if_true, if_false, reduceCtorEq, forall_const, ite_true, ite_false, implies_true, walkS, tabS, Tryz.results35]
      refine callK (den_Decimal r.pw (by omega) (by omega)) (by first | exact .inl rfl | exact .inr rfl) ?_
      simp (config := { maxSteps := 1000000 }) +decide only [NoH, Old, OldL, nilQ, nilA, asgn, nz, RechL, ReY, isNew, stepO, XPost, postN, XOk, updN, updU, isEff, avalue, aeff, ASt.eval, ASt.put, ASt.set, ASt.new, Nat.reduceDiv, Nat.reduceAdd, Int.reduceToNat, absV, absC, scalar, alen, acap, conc, flats, live, blkOf, aload, rd, part?, afieldAddr, afield, aindexAddr, cellsOf, afill, places, abuild, optI, asliceV, asliceS, szOk, srcCells, aappend, acopy, astore, amakeSlice, abuildSlice, snapL, mapO, treeL, AVal.tree, AVal.flatT, isFlat, ares, isFz, afroz, afrozB, lookupA, lookupH, tops, if_true, if_false, reduceCtorEq, forall_const, ite_true, ite_false, implies_true, walkS, tabS, Tryz.results35]
      refine callK (den_Decimal r.fd (by omega) (by omega)) (by first | exact .inl rfl | exact .inr rfl) ?_
      simp (config := { maxSteps := 1000000 }) +decide only [NoH, Old, OldL, nilQ, nilA, asgn, nz, RechL, ReY, isNew, stepO, XPost, postN, XOk, updN, updU, isEff, avalue, aeff, ASt.eval, ASt.put, ASt.set, ASt.new, Nat.reduceDiv, Nat.reduceAdd, Int.reduceToNat, absV, absC, scalar, alen, acap, conc, flats, live, blkOf, aload, rd, part?, afieldAddr, afield, aindexAddr, cellsOf, afill, places, abuild, optI, asliceV, asliceS, szOk, srcCells, aappend, acopy, astore, amakeSlice, abuildSlice, snapL, mapO, treeL, AVal.tree, AVal.flatT, isFlat, ares, isFz, afroz, afrozB, lookupA, lookupH, tops, if_true, if_false, reduceCtorEq, forall_const, ite_true, ite_false, implies_true, walkS, tabS, Tryz.results35]
      refine callK (den_Decimal r.ns (by omega) (by omega)) (by first | exact .inl rfl | exact .inr rfl) ?_
      simp (config := { maxSteps := 1000000 }) +decide only [NoH, Old, OldL, nilQ, nilA, asgn, nz, RechL, ReY, isNew, stepO, XPost, postN, XOk, updN, updU, isEff, avalue, aeff, ASt.eval, ASt.put, ASt.set, ASt.new, Nat.reduceDiv, Nat.reduceAdd, Int.reduceToNat, absV, absC, scalar, alen, acap, conc, flats, live, blkOf, aload, rd, part?, afieldAddr, afield, aindexAddr, cellsOf, afill, places, abuild, optI, asliceV, asliceS, szOk, srcCells, aappend, acopy, astore, amakeSlice, abuildSlice, snapL, mapO, treeL, AVal.tree, AVal.flatT, isFlat, ares, isFz, afroz, afrozB, lookupA, lookupH, tops, if_true, if_false, reduceCtorEq, forall_const, ite_true, ite_false, implies_true, walkS, tabS, Tryz.results35]
      refine callK (den_Decimal r.wd (by omega) (by omega)) (by first | exact .inl rfl | exact .inr rfl) ?_
      simp (config := { maxSteps := 1000000 }) +decide only [NoH, Old, OldL, nilQ, nilA, asgn, nz, RechL, ReY, isNew, stepO, XPost, postN, XOk, updN, updU, isEff, avalue, aeff, ASt.eval, ASt.put, ASt.set, ASt.new, Nat.reduceDiv, Nat.reduceAdd, Int.reduceToNat, absV, absC, scalar, alen, acap, conc, flats, live, blkOf, aload, rd, part?, afieldAddr, afield, aindexAddr, cellsOf, afill, places, abuild, optI, asliceV, asliceS, szOk, srcCells, aappend, acopy, astore, amakeSlice, abuildSlice, snapL, mapO, treeL, AVal.tree, AVal.flatT, isFlat, ares, isFz, afroz, afrozB, lookupA, lookupH, tops, if_true, if_false, reduceCtorEq, forall_const, ite_true, ite_false, implies_true, walkS, tabS, Tryz.results35, treeL_t]
      refine callK (dj) (by first | exact .inl rfl | exact .inr rfl) ?_
      have z1 : ∀ z a : AVal, lay (List.replicate 6 z) 0 [a] = [a, z, z, z, z, z] := fun _ _ => rfl
      have z2 : ∀ a b z1 z2 z3 z4 z5 : AVal, lay [a, z1, z2, z3, z4, z5] 1 [b] = [a, b, z2, z3, z4, z5] := fun _ _ _ _ _ _ _ => rfl
      have z3 : ∀ a b z1 z2 z3 z4 z5 : AVal, lay [a, z1, z2, z3, z4, z5] 2 [b] = [a, z1, b, z3, z4, z5] := fun _ _ _ _ _ _ _ => rfl
      have z4 : ∀ a b z1 z2 z3 z4 z5 : AVal, lay [a, z1, z2, z3, z4, z5] 3 [b] = [a, z1, z2, b, z4, z5] := fun _ _ _ _ _ _ _ => rfl
      have z5 : ∀ a b z1 z2 z3 z4 z5 : AVal, lay [a, z1, z2, z3, z4, z5] 4 [b] = [a, z1, z2, z3, b, z5] := fun _ _ _ _ _ _ _ => rfl
      have z6 : ∀ a b z1 z2 z3 z4 z5 : AVal, lay [a, z1, z2, z3, z4, z5] 5 [b] = [a, z1, z2, z3, z4, b] := fun _ _ _ _ _ _ _ => rfl
      simp (config := { maxSteps := 1000000 }) +decide only [NoH, Old, OldL, nilQ, nilA, asgn, nz, RechL, ReY, isNew, stepO, XPost, postN, XOk, updN, updU, isEff, avalue, aeff, ASt.eval, ASt.put, ASt.set, ASt.new, Nat.reduceDiv, Nat.reduceAdd, Int.reduceToNat, absV, absC, scalar, alen, acap, conc, flats, live, blkOf, aload, rd, part?, afieldAddr, afield, aindexAddr, cellsOf, afill, places, abuild, optI, asliceV, asliceS, szOk, srcCells, aappend, acopy, astore, amakeSlice, abuildSlice, snapL, mapO, treeL, AVal.tree, AVal.flatT, isFlat, ares, isFz, afroz, afrozB, lookupA, lookupH, tops, if_true, if_false, reduceCtorEq, forall_const, ite_true, ite_false, implies_true, walkS, tabS, Tryz.results35, treeL_t, z1, z2, z3, z4, z5, z6, List.length_cons, List.length_nil, Nat.reduceAdd, Nat.reduceLT]
      refine callK (dr) (by first | exact .inl rfl | exact .inr rfl) ?_
      simp (config := { maxSteps := 1000000 }) +decide only [NoH, Old, OldL, nilQ, nilA, asgn, nz, RechL, ReY, isNew, stepO, XPost, postN, XOk, updN, updU, isEff, avalue, aeff, ASt.eval, ASt.put, ASt.set, ASt.new, Nat.reduceDiv, Nat.reduceAdd, Int.reduceToNat, absV, absC, scalar, alen, acap, conc, flats, live, blkOf, aload, rd, part?, afieldAddr, afield, aindexAddr, cellsOf, afill, places, abuild, optI, asliceV, asliceS, szOk, srcCells, aappend, acopy, astore, amakeSlice, abuildSlice, snapL, mapO, treeL, AVal.tree, AVal.flatT, isFlat, ares, isFz, afroz, afrozB, lookupA, lookupH, tops, if_true, if_false, reduceCtorEq, forall_const, ite_true, ite_false, implies_true, walkS, tabS, Tryz.results35]
      rfl
  have hltI : (k : Int) < (r.mn : Int) := by omega
  have wk : IntKind.i64.wrap ((k : Int) + 1) = ((k + 1 : Nat) : Int) := wrap64 (by omega) (by omega)
  have hr1 : k * 2 + 2 ≤ r.ms.length := by omega
  have hc3 : (k + 1) * 2 ≤ r.mn * 2 := by omega
  have hc2 : k * 2 + 2 ≤ r.mn * 2 := by omega
  have ck := md_ld hr1
  obtain ⟨b1, b2, _⟩ := h.ms k hlt
  have n1 := itoa_len12 (n := mN r.ms k) ⟨by omega, by omega⟩
  have n2 := itoa_len12 (n := mR r.ms k) ⟨by omega, by omega⟩
  have s1 := fun p q => sem_addT Tryz.prog 9 p q (Lib.itoa (mN r.ms k)) [47] (by simp only [List.length_cons, List.length_nil]; omega)
  have s2 := fun p q => sem_addT Tryz.prog 9 p q (Lib.itoa (mN r.ms k) ++ [47]) (Lib.itoa (mR r.ms k)) (by simp only [List.length_append, List.length_cons, List.length_nil]; omega)
  have tk : (mdTs r.ms k).take k = mdTs r.ms k := List.take_of_length_le (by omega)
  have h16 : (k + 1) * 16 ≤ 140737488355328 := by omega
  have sn : mapC AVal.t (mdTs r.ms k) ++ [AVal.t (Lib.itoa (mN r.ms k) ++ [47] ++ Lib.itoa (mR r.ms k))] = mapC AVal.t (mdTs r.ms (k + 1)) := by
    rw [← mdTs_snoc]
    simp [mapC, mdT]
  simp (config := { maxSteps := 1000000 }) +decide only [NoH, Old, OldL, nilQ, nilA, asgn, nz, RechL, ReY, isNew, stepO, XPost, postN, XOk, updN, updU, isEff, avalue, aeff, ASt.eval, ASt.put, ASt.set, ASt.new, Nat.reduceDiv, Nat.reduceAdd, Int.reduceToNat, absV, absC, scalar, alen, acap, conc, flats, live, blkOf, aload, rd, part?, afieldAddr, afield, aindexAddr, cellsOf, afill, places, abuild, optI, asliceV, asliceS, szOk, srcCells, aappend, acopy, astore, amakeSlice, abuildSlice, snapL, mapO, treeL, AVal.tree, AVal.flatT, isFlat, ares, isFz, afroz, afrozB, lookupA, lookupH, tops, if_true, if_false, reduceCtorEq, forall_const, ite_true, ite_false, implies_true, walkS, tabS, Tryz.results35, eq_true hltI, hlt, ck, lm, hc3, hc2]
  refine callK (den_Decimal (mN r.ms k) (by omega) (by omega)) (by first | exact .inl rfl | exact .inr rfl) ?_
  simp (config := { maxSteps := 1000000 }) +decide only [NoH, Old, OldL, nilQ, nilA, asgn, nz, RechL, ReY, isNew, stepO, XPost, postN, XOk, updN, updU, isEff, avalue, aeff, ASt.eval, ASt.put, ASt.set, ASt.new, Nat.reduceDiv, Nat.reduceAdd, Int.reduceToNat, absV, absC, scalar, alen, acap, conc, flats, live, blkOf, aload, rd, part?, afieldAddr, afield, aindexAddr, cellsOf, afill, places, abuild, optI, asliceV, asliceS, szOk, srcCells, aappend, acopy, astore, amakeSlice, abuildSlice, snapL, mapO, treeL, AVal.tree, AVal.flatT, isFlat, ares, isFz, afroz, afrozB, lookupA, lookupH, tops, if_true, if_false, reduceCtorEq, forall_const, ite_true, ite_false, implies_true, walkS, tabS, Tryz.results35, s1]
  refine callK (den_Decimal (mR r.ms k) (by omega) (by omega)) (by first | exact .inl rfl | exact .inr rfl) ?_
  simp (config := { maxSteps := 1000000 }) +decide only [NoH, Old, OldL, nilQ, nilA, asgn, nz, RechL, ReY, isNew, stepO, XPost, postN, XOk, updN, updU, isEff, avalue, aeff, ASt.eval, ASt.put, ASt.set, ASt.new, Nat.reduceDiv, Nat.reduceAdd, Int.reduceToNat, absV, absC, scalar, alen, acap, conc, flats, live, blkOf, aload, rd, part?, afieldAddr, afield, aindexAddr, cellsOf, afill, places, abuild, optI, asliceV, asliceS, szOk, srcCells, aappend, acopy, astore, amakeSlice, abuildSlice, snapL, mapO, treeL, AVal.tree, AVal.flatT, isFlat, ares, isFz, afroz, afrozB, lookupA, lookupH, tops, if_true, if_false, reduceCtorEq, forall_const, ite_true, ite_false, implies_true, walkS, tabS, Tryz.results35, s1, s2, wk, tk, lk, h16, sn, List.replicate_succ, List.flatten_cons, List.flatten_nil]
  refine ⟨⟨(k + 1, G + 1, G + 2), hlt⟩, ?_, by show r.mn - (k + 1) < r.mn - k; omega⟩
  refine weak_mk rfl (by first | exact Nat.le_refl _ | (simp only [mk_gen]; omega)) ?_ ?_ <;> simp +decide only [w_lookup_nil, w_lookup_cons, ch_ch, ch_lit, lit_ch, wkT, wkH, wkB, WVL, WV_refl', Int.natCast_zero, Int.natCast_add, Int.natCast_one, Nat.sub_self, Nat.sub_zero, List.replicate_zero, List.take_zero, List.nil_append, List.append_nil, fillC_zero, Nat.reduceDiv, Nat.reduceAdd, upd_bk, bk_at, getB_zero, getB_succ, modB_zero, modB_succ, rows_lit, repB_zero, repB_succ, List.length_cons, List.length_nil, upd_upd_same, upd_apply, mk_tmp, mk_heap, mk_gen, lookupA, lookupH, List.getD_cons_zero, List.getD_cons_succ, init_two, tops, Bool.true_and, and_self, and_true, true_and, true_or, if_true, if_false, ite_true, ite_false, reduceCtorEq, reduceIte]
end Go.Proofs.YtiaemddmkmfijaaGreatDoor
