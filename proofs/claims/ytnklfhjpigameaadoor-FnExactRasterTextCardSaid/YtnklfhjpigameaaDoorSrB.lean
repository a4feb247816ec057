/-
  OWN WORK: the reference's text of a list.
-/
import Derived.Test.YtnklfhjpigameaaDoorSrA
namespace Go.Proofs.YtnklfhjpigameaaDoor
open Go Go.Own Go.Proofs
set_option maxHeartbeats 4000000
set_option maxRecDepth 20000
set_option linter.unusedSimpArgs false
set_option linter.unusedVariables false
theorem addTS (a b : List UInt8) (h : a.length + b.length ≤ 1000000) (x y : Operand) : semS Tryd.prog (do eqGuard .add 9 x y (.string (bt a)) (.string (bt b)); binOp .add 9 (.string (bt a)) (.string (bt b))) = some (.flat (.string (bt (a ++ b)))) := sem_addT Tryd.prog 9 x y a b (by omega)
theorem join_snoc (c : UInt8) : ∀ (L : List (List UInt8)) (x : List UInt8), L ≠ [] → Lib.join (L ++ [x]) [c] = Lib.join L [c] ++ [c] ++ x
  | [], _, h => absurd rfl h
  | [y], x, _ => by
    rw [List.cons_append, List.nil_append, Lib.join_cons, Lib.join_one]
    simp [Lib.joinTail]
  | y :: z :: r, x, _ => by
    have ih := join_snoc c (z :: r) x (by simp)
    have e : ∀ t : List (List UInt8), ∀ w, Lib.join (y :: w :: t) [c] = y ++ c :: Lib.join (w :: t) [c] := fun t w => by
      rw [Lib.join_cons, Lib.join_cons]
      simp [Lib.joinTail]
    rw [List.cons_append, List.cons_append, e, e, ← List.cons_append, ih]
    simp
/-- the text of the first k numbers -/
def lsT (xs : List Int) (k : Nat) : List UInt8 := Lib.join ((xs.take k).map Lib.itoa) [44]
theorem lsT_zero (xs : List Int) : lsT xs 0 = [] := by simp [lsT, Lib.join_nil]
theorem lsT_one {xs : List Int} (h : 0 < xs.length) : lsT xs 1 = Lib.itoa xs[0] := by
  unfold lsT
  rw [List.take_succ_eq_append_getElem h]
  simp [Lib.join_one]
theorem lsT_succ {xs : List Int} {k : Nat} (h0 : 0 < k) (h : k < xs.length) : lsT xs (k + 1) = lsT xs k ++ [44] ++ Lib.itoa xs[k] := by
  unfold lsT
  rw [List.take_succ_eq_append_getElem h, List.map_append]
  exact join_snoc 44 _ _ fun e => by
    have := congrArg List.length e
    rw [List.length_map, List.length_take, List.length_nil] at this
    omega
theorem lsT_len {xs : List Int} (hx : ∀ x ∈ xs, In12 x) (k : Nat) : (lsT xs k).length ≤ xs.length * 15 := by
  have := join_len 44 14 ((xs.take k).map Lib.itoa) fun x hx' => by
    obtain ⟨n, hn, rfl⟩ := List.mem_map.1 hx'
    exact itoa_len12 (hx n (List.mem_of_mem_take hn))
  simp only [List.length_map, List.length_take] at this
  unfold lsT
  refine Nat.le_trans this (Nat.mul_le_mul_right _ (Nat.min_le_right _ _))
theorem den_l01List (xs : List Int) (hn : xs.length ≤ 64) (hx : ∀ x ∈ xs, In12 x) : Den Tryd.prog 21 [ints xs] (.t (numsT xs)) := by
  by_cases h0 : xs = []
  · subst h0
    refine den_of_awp Tryd.func21 rfl (by kernel_rfl) (Nat.le_of_ble_eq_true rfl) (by simp only [treeL, AVal.tree, treeL_i, treeL_ints, treeL_u8, treeL_append, Bool.and_self, Bool.and_true, Bool.true_and]) (by first | rfl | simp only [treeL, AVal.tree, treeL_i, treeL_ints, treeL_u8, treeL_append, Bool.and_self, Bool.and_true, Bool.true_and]) mixed (by kernel_rfl) fun hl => ?_
    simp only [lensL, lens, lensL_i, lensL_mapC, maxI, and_true, true_and] at hl
    rw [Tryd.ntmps21]
    refine ex_start ?_
    simp (config := { maxSteps := 1000000 }) +decide only [NoH, Old, OldL, nilQ, nilA, asgn, nz, RechL, ReY, isNew, stepO, XPost, postN, XOk, updN, updU, isEff, avalue, aeff, ASt.eval, ASt.put, ASt.set, ASt.new, Nat.reduceDiv, Nat.reduceAdd, Int.reduceToNat, absV, absC, scalar, alen, acap, conc, flats, live, blkOf, aload, rd, part?, afieldAddr, afield, aindexAddr, cellsOf, afill, places, abuild, optI, asliceV, asliceS, szOk, srcCells, aappend, acopy, astore, amakeSlice, abuildSlice, snapL, mapO, treeL, AVal.tree, AVal.flatT, isFlat, ares, isFz, afroz, afrozB, lookupA, lookupH, tops, if_true, if_false, reduceCtorEq, forall_const, ite_true, ite_false, implies_true, walkS, tabS, Tryd.results21, numsT]
  have l0 : ¬ (xs.length : Int) = 0 := by have := List.length_pos_iff.2 h0; omega
  have hend : lsT xs xs.length = Lib.join (xs.map Lib.itoa) [44] := by unfold lsT; rw [List.take_length]
  rw [numsT_eq h0, ← hend]
  have hlen := lsT_len hx
  refine den_of_awp Tryd.func21 rfl (by kernel_rfl) (Nat.le_of_ble_eq_true rfl) (by simp only [treeL, AVal.tree, treeL_i, treeL_ints, treeL_u8, treeL_append, Bool.and_self, Bool.and_true, Bool.true_and]) (by first | rfl | simp only [treeL, AVal.tree, treeL_i, treeL_ints, treeL_u8, treeL_append, Bool.and_self, Bool.and_true, Bool.true_and]) mixed (by kernel_rfl) fun hl => ?_
  simp only [lensL, lens, lensL_i, lensL_mapC, maxI, and_true, true_and] at hl
  rw [Tryd.ntmps21]
  refine ex_start ?_
  simp (config := { maxSteps := 1000000 }) +decide only [NoH, Old, OldL, nilQ, nilA, asgn, nz, RechL, ReY, isNew, stepO, XPost, postN, XOk, updN, updU, isEff, avalue, aeff, ASt.eval, ASt.put, ASt.set, ASt.new, Nat.reduceDiv, Nat.reduceAdd, Int.reduceToNat, absV, absC, scalar, alen, acap, conc, flats, live, blkOf, aload, rd, part?, afieldAddr, afield, aindexAddr, cellsOf, afill, places, abuild, optI, asliceV, asliceS, szOk, srcCells, aappend, acopy, astore, amakeSlice, abuildSlice, snapL, mapO, treeL, AVal.tree, AVal.flatT, isFlat, ares, isFz, afroz, afrozB, lookupA, lookupH, tops, if_true, if_false, reduceCtorEq, forall_const, ite_true, ite_false, implies_true, walkS, tabS, Tryd.results21, eq_false l0]
  refine ex_loop (fun k : {k : Nat // k ≤ xs.length} => mk [(0, ints xs), (3, .t (lsT xs k.1)), (4, .i k.1)] [] 0 26) (fun k => xs.length - k.1) ⟨0, Nat.zero_le _⟩ ?_ ?_
  · have e0 := lsT_zero xs
    refine weak_mk rfl (by first | exact Nat.le_refl _ | (simp only [mk_gen]; omega)) ?_ ?_ <;> simp +decide only [w_lookup_nil, w_lookup_cons, ch_ch, ch_lit, lit_ch, wkT, wkH, wkB, WVL, WV_refl', Int.natCast_zero, Int.natCast_add, Int.natCast_one, Nat.sub_self, Nat.sub_zero, List.replicate_zero, List.take_zero, List.nil_append, List.append_nil, fillC_zero, Nat.reduceDiv, Nat.reduceAdd, upd_bk, bk_at, getB_zero, getB_succ, modB_zero, modB_succ, rows_lit, repB_zero, repB_succ, List.length_cons, List.length_nil, upd_upd_same, upd_apply, mk_tmp, mk_heap, mk_gen, lookupA, lookupH, List.getD_cons_zero, List.getD_cons_succ, init_two, tops, Bool.true_and, and_self, and_true, true_and, true_or, if_true, if_false, ite_true, ite_false, reduceCtorEq, reduceIte, e0, bt]
  rintro ⟨k, k1⟩
  have k1' : k ≤ xs.length := k1
  have hk := hlen k
  by_cases hlt : k < xs.length
  case neg =>
    have e : k = xs.length := by omega
    subst e
    have hltI : ¬ (xs.length : Int) < (xs.length : Int) := by omega
    simp (config := { maxSteps := 1000000 }) +decide only [NoH, Old, OldL, nilQ, nilA, asgn, nz, RechL, ReY, isNew, stepO, XPost, postN, XOk, updN, updU, isEff, avalue, aeff, ASt.eval, ASt.put, ASt.set, ASt.new, Nat.reduceDiv, Nat.reduceAdd, Int.reduceToNat, absV, absC, scalar, alen, acap, conc, flats, live, blkOf, aload, rd, part?, afieldAddr, afield, aindexAddr, cellsOf, afill, places, abuild, optI, asliceV, asliceS, szOk, srcCells, aappend, acopy, astore, amakeSlice, abuildSlice, snapL, mapO, treeL, AVal.tree, AVal.flatT, isFlat, ares, isFz, afroz, afrozB, lookupA, lookupH, tops, if_true, if_false, reduceCtorEq, forall_const, ite_true, ite_false, implies_true, walkS, tabS, Tryd.results21, eq_false hltI]
  have hltI : (k : Int) < (xs.length : Int) := by omega
  have wk : IntKind.i64.wrap ((k : Int) + 1) = ((k + 1 : Nat) : Int) := wrap64 (by omega) (by omega)
  have ix := hx _ (List.getElem_mem hlt)
  have li := itoa_len12 ix
  have d := den_l01Dec xs[k] (by have := ix.1; omega) (by have := ix.2; omega)
  by_cases k0 : 0 < k
  · have k0I : (0 : Int) < (k : Int) := by omega
    have a1 := addTS (lsT xs k) [44] (by simp; omega)
    have a2 := addTS (lsT xs k ++ [44]) (Lib.itoa xs[k]) (by simp; omega)
    have es := (lsT_succ k0 hlt).symm
    simp (config := { maxSteps := 1000000 }) +decide only [NoH, Old, OldL, nilQ, nilA, asgn, nz, RechL, ReY, isNew, stepO, XPost, postN, XOk, updN, updU, isEff, avalue, aeff, ASt.eval, ASt.put, ASt.set, ASt.new, Nat.reduceDiv, Nat.reduceAdd, Int.reduceToNat, absV, absC, scalar, alen, acap, conc, flats, live, blkOf, aload, rd, part?, afieldAddr, afield, aindexAddr, cellsOf, afill, places, abuild, optI, asliceV, asliceS, szOk, srcCells, aappend, acopy, astore, amakeSlice, abuildSlice, snapL, mapO, treeL, AVal.tree, AVal.flatT, isFlat, ares, isFz, afroz, afrozB, lookupA, lookupH, tops, if_true, if_false, reduceCtorEq, forall_const, ite_true, ite_false, implies_true, walkS, tabS, Tryd.results21, eq_true hltI, eq_true k0I, hlt, a1]
    refine callK (d) (by first | exact .inl rfl | exact .inr rfl) ?_
    simp (config := { maxSteps := 1000000 }) +decide only [NoH, Old, OldL, nilQ, nilA, asgn, nz, RechL, ReY, isNew, stepO, XPost, postN, XOk, updN, updU, isEff, avalue, aeff, ASt.eval, ASt.put, ASt.set, ASt.new, Nat.reduceDiv, Nat.reduceAdd, Int.reduceToNat, absV, absC, scalar, alen, acap, conc, flats, live, blkOf, aload, rd, part?, afieldAddr, afield, aindexAddr, cellsOf, afill, places, abuild, optI, asliceV, asliceS, szOk, srcCells, aappend, acopy, astore, amakeSlice, abuildSlice, snapL, mapO, treeL, AVal.tree, AVal.flatT, isFlat, ares, isFz, afroz, afrozB, lookupA, lookupH, tops, if_true, if_false, reduceCtorEq, forall_const, ite_true, ite_false, implies_true, walkS, tabS, Tryd.results21, a2, es, wk]
    refine ⟨⟨k + 1, hlt⟩, ?_, by show xs.length - (k + 1) < xs.length - k; omega⟩
    refine weak_mk rfl (by first | exact Nat.le_refl _ | (simp only [mk_gen]; omega)) ?_ ?_ <;> simp +decide only [w_lookup_nil, w_lookup_cons, ch_ch, ch_lit, lit_ch, wkT, wkH, wkB, WVL, WV_refl', Int.natCast_zero, Int.natCast_add, Int.natCast_one, Nat.sub_self, Nat.sub_zero, List.replicate_zero, List.take_zero, List.nil_append, List.append_nil, fillC_zero, Nat.reduceDiv, Nat.reduceAdd, upd_bk, bk_at, getB_zero, getB_succ, modB_zero, modB_succ, rows_lit, repB_zero, repB_succ, List.length_cons, List.length_nil, upd_upd_same, upd_apply, mk_tmp, mk_heap, mk_gen, lookupA, lookupH, List.getD_cons_zero, List.getD_cons_succ, init_two, tops, Bool.true_and, and_self, and_true, true_and, true_or, if_true, if_false, ite_true, ite_false, reduceCtorEq, reduceIte]
  · have e : k = 0 := by omega
    subst e
    have k0I : ¬ (0 : Int) < ((0 : Nat) : Int) := by omega
    have z0 := lsT_zero xs
    rw [z0] at hk ⊢
    have a2 := addTS [] (Lib.itoa xs[0]) (by simp; omega)
    have es := (lsT_one hlt).symm
    rw [List.nil_append, es] at a2
    simp (config := { maxSteps := 1000000 }) +decide only [NoH, Old, OldL, nilQ, nilA, asgn, nz, RechL, ReY, isNew, stepO, XPost, postN, XOk, updN, updU, isEff, avalue, aeff, ASt.eval, ASt.put, ASt.set, ASt.new, Nat.reduceDiv, Nat.reduceAdd, Int.reduceToNat, absV, absC, scalar, alen, acap, conc, flats, live, blkOf, aload, rd, part?, afieldAddr, afield, aindexAddr, cellsOf, afill, places, abuild, optI, asliceV, asliceS, szOk, srcCells, aappend, acopy, astore, amakeSlice, abuildSlice, snapL, mapO, treeL, AVal.tree, AVal.flatT, isFlat, ares, isFz, afroz, afrozB, lookupA, lookupH, tops, if_true, if_false, reduceCtorEq, forall_const, ite_true, ite_false, implies_true, walkS, tabS, Tryd.results21, eq_true hltI, eq_false k0I, hlt]
    refine callK (d) (by first | exact .inl rfl | exact .inr rfl) ?_
    simp (config := { maxSteps := 1000000 }) +decide only [NoH, Old, OldL, nilQ, nilA, asgn, nz, RechL, ReY, isNew, stepO, XPost, postN, XOk, updN, updU, isEff, avalue, aeff, ASt.eval, ASt.put, ASt.set, ASt.new, Nat.reduceDiv, Nat.reduceAdd, Int.reduceToNat, absV, absC, scalar, alen, acap, conc, flats, live, blkOf, aload, rd, part?, afieldAddr, afield, aindexAddr, cellsOf, afill, places, abuild, optI, asliceV, asliceS, szOk, srcCells, aappend, acopy, astore, amakeSlice, abuildSlice, snapL, mapO, treeL, AVal.tree, AVal.flatT, isFlat, ares, isFz, afroz, afrozB, lookupA, lookupH, tops, if_true, if_false, reduceCtorEq, forall_const, ite_true, ite_false, implies_true, walkS, tabS, Tryd.results21, es, a2, wk]
    refine ⟨⟨1, hlt⟩, ?_, by show xs.length - 1 < xs.length - 0; omega⟩
    refine weak_mk rfl (by first | exact Nat.le_refl _ | (simp only [mk_gen]; omega)) ?_ ?_ <;> simp +decide only [w_lookup_nil, w_lookup_cons, ch_ch, ch_lit, lit_ch, wkT, wkH, wkB, WVL, WV_refl', Int.natCast_zero, Int.natCast_add, Int.natCast_one, Nat.sub_self, Nat.sub_zero, List.replicate_zero, List.take_zero, List.nil_append, List.append_nil, fillC_zero, Nat.reduceDiv, Nat.reduceAdd, upd_bk, bk_at, getB_zero, getB_succ, modB_zero, modB_succ, rows_lit, repB_zero, repB_succ, List.length_cons, List.length_nil, upd_upd_same, upd_apply, mk_tmp, mk_heap, mk_gen, lookupA, lookupH, List.getD_cons_zero, List.getD_cons_succ, init_two, tops, Bool.true_and, and_self, and_true, true_and, true_or, if_true, if_false, ite_true, ite_false, reduceCtorEq, reduceIte]
end Go.Proofs.YtnklfhjpigameaaDoor
