/-
  OWN WORK: numbers and lists of numbers as texts, and read back.
-/
import Derived.Test.YtnklfhjpigameaaDoorTxC
namespace Go.Proofs.YtnklfhjpigameaaDoor
open Go Go.Own Go.Proofs
set_option maxHeartbeats 4000000
set_option maxRecDepth 20000
set_option linter.unusedSimpArgs false
set_option linter.unusedVariables false
theorem sem_errNil (x : Operand) : semS Tryd.prog (do eqGuard .neq 53 x (.const .nilIface) .nilIface .nilIface; binOp .neq 53 .nilIface .nilIface) = some (.flat (.bool false)) := by
  cases x <;> kernel_rfl
def In18 (n : Int) : Prop := -1000000000000000000 < n ∧ n < 1000000000000000000
def In12 (n : Int) : Prop := -1000000000000 ≤ n ∧ n ≤ 1000000000000
theorem in12 {n : Int} (h : In12 n) : In18 n := by obtain ⟨h1, h2⟩ := h; exact ⟨by omega, by omega⟩
theorem join_len (c : UInt8) (k : Nat) : ∀ (L : List (List UInt8)), (∀ x ∈ L, x.length ≤ k) → (Lib.join L [c]).length ≤ L.length * (k + 1)
  | [], _ => by simp [Lib.join_nil]
  | [x], h => by
    have := h x (by simp)
    rw [Lib.join_one]
    simp
    omega
  | x :: y :: r, h => by
    have ih := join_len c k (y :: r) fun z hz => h z (List.mem_cons_of_mem _ hz)
    have h0 := h x (by simp)
    have e : Lib.join (x :: y :: r) [c] = x ++ c :: Lib.join (y :: r) [c] := by
      rw [Lib.join_cons, Lib.join_cons]
      simp [Lib.joinTail]
    rw [e]
    simp only [List.length_append, List.length_cons] at ih ⊢
    rw [Nat.succ_mul]
    omega
theorem itoa_len12 {n : Int} (h : In12 n) : (Lib.itoa n).length ≤ 14 := (itoa_len (n := n) (k := 13) (by omega) (by obtain ⟨h1, h2⟩ := h; omega)).1
theorem numsT_len {xs : List Int} (h : ∀ x ∈ xs, In12 x) : (numsT xs).length ≤ xs.length * 15 + 1 := by
  unfold numsT
  split
  · simp
  · have := join_len 44 14 (xs.map Lib.itoa) fun x hx => by
      obtain ⟨n, hn, rfl⟩ := List.mem_map.1 hx
      exact itoa_len12 (h n hn)
    simp only [List.length_map] at this
    omega
theorem numsT_eq {xs : List Int} (h : xs ≠ []) : numsT xs = Lib.join (xs.map Lib.itoa) [44] := if_neg h
theorem den_ListText (xs : List Int) (hn : xs.length ≤ 64) (hx : ∀ x ∈ xs, In12 x) : Den Tryd.prog 15 [ints xs] (.t (numsT xs)) := by
  refine den_of_awpG (ghs [] [27]) Tryd.func15 rfl (by kernel_rfl) (Nat.le_of_ble_eq_true rfl) (by simp only [treeL, AVal.tree, treeL_i, treeL_ints, treeL_u8, treeL_append, Bool.and_self, Bool.and_true, Bool.true_and]) (by first | rfl | simp only [treeL, AVal.tree, treeL_i, treeL_ints, treeL_u8, treeL_append, Bool.and_self, Bool.and_true, Bool.true_and]) mixed (by kernel_rfl) fun hl => ?_
  simp only [lensL, lens, lensL_i, lensL_mapC, maxI, and_true, true_and] at hl
  rw [Tryd.ntmps15]
  refine ex_start ?_
  have c1 : ¬ (64 : Int) < (xs.length : Int) := by omega
  by_cases h0 : xs = []
  · subst h0
    simp (config := { maxSteps := 1000000 }) +decide only [NoH, Old, OldL, nilQ, nilA, asgn, nz, RechL, ReY, isNew, stepO, XPost, postN, XOk, updN, updU, isEff, avalue, aeff, ASt.eval, ASt.put, ASt.set, ASt.new, Nat.reduceDiv, Nat.reduceAdd, Int.reduceToNat, absV, absC, scalar, alen, acap, conc, flats, live, blkOf, aload, rd, part?, afieldAddr, afield, aindexAddr, cellsOf, afill, places, abuild, optI, asliceV, asliceS, szOk, srcCells, aappend, acopy, astore, amakeSlice, abuildSlice, snapL, mapO, treeL, AVal.tree, AVal.flatT, isFlat, ares, isFz, afroz, afrozB, lookupA, lookupH, tops, if_true, if_false, reduceCtorEq, forall_const, ite_true, ite_false, implies_true, walkS, tabS, Tryd.results15, numsT]
  have hpos : 0 < xs.length := List.length_pos_iff.2 h0
  have c2 : ¬ (xs.length : Int) = 0 := by omega
  have c3 : ¬ xs.length = 0 := by omega
  have hz1 : (xs.length : Int) ≤ 9223372036854775807 := by omega
  have hz2 : (xs.length : Int) * ((16 : Nat) : Int) ≤ 281474976710656 := by omega
  simp (config := { maxSteps := 1000000 }) +decide only [NoH, Old, OldL, nilQ, nilA, asgn, nz, RechL, ReY, isNew, stepO, XPost, postN, XOk, updN, updU, isEff, avalue, aeff, ASt.eval, ASt.put, ASt.set, ASt.new, Nat.reduceDiv, Nat.reduceAdd, Int.reduceToNat, absV, absC, scalar, alen, acap, conc, flats, live, blkOf, aload, rd, part?, afieldAddr, afield, aindexAddr, cellsOf, afill, places, abuild, optI, asliceV, asliceS, szOk, srcCells, aappend, acopy, astore, amakeSlice, abuildSlice, snapL, mapO, treeL, AVal.tree, AVal.flatT, isFlat, ares, isFz, afroz, afrozB, lookupA, lookupH, tops, if_true, if_false, reduceCtorEq, forall_const, ite_true, ite_false, implies_true, walkS, tabS, Tryd.results15, eq_false c1, eq_false c2, eq_false c3, eq_true hz1, eq_true hz2, List.flatten_nil]
  refine ex_loop (fun p : {p : List (List UInt8) × Nat × Nat // p.1.length ≤ xs.length ∧ p.1 = (xs.map Lib.itoa).take p.1.length} => mkG (ghs [] [27]) [(3, .own 14 p.1.2.1 0 p.1.1.length), (15, ints xs), (16, .i xs.length), (17, .i p.1.1.length)] [(14, ⟨p.1.2.1, 1, mapC AVal.t p.1.1⟩)] p.1.2.2 32) (fun p => xs.length - p.1.1.length) ⟨([], 0, 1), by simp, by simp⟩ ?_ ?_
  · refine weak_mk rfl (by first | exact Nat.le_refl _ | (simp only [mk_gen]; omega)) ?_ ?_ <;> simp +decide only [w_lookup_nil, w_lookup_cons, ch_ch, ch_lit, lit_ch, wkT, wkH, wkB, WVL, WV_refl', Int.natCast_zero, Int.natCast_add, Int.natCast_one, Nat.sub_self, Nat.sub_zero, List.replicate_zero, List.take_zero, List.nil_append, List.append_nil, fillC_zero, Nat.reduceDiv, Nat.reduceAdd, upd_bk, bk_at, getB_zero, getB_succ, modB_zero, modB_succ, rows_lit, repB_zero, repB_succ, List.length_cons, List.length_nil, upd_upd_same, upd_apply, mk_tmp, mk_heap, mk_gen, lookupA, lookupH, List.getD_cons_zero, List.getD_cons_succ, init_two, tops, Bool.true_and, and_self, and_true, true_and, true_or, if_true, if_false, ite_true, ite_false, reduceCtorEq, reduceIte, mapC_nil, List.length_nil]
  rintro ⟨⟨L, g, G⟩, j1, j2⟩
  have j1' : L.length ≤ xs.length := j1
  have j2' : L = (xs.map Lib.itoa).take L.length := j2
  by_cases hlt : L.length < xs.length
  · have hltI : (L.length : Int) < (xs.length : Int) := by omega
    have wk : IntKind.i64.wrap ((L.length : Int) + 1) = ((L.length + 1 : Nat) : Int) := wrap64 (by omega) (by omega)
    have hb := hx _ (List.getElem_mem hlt)
    have tk : L.take L.length = L := List.take_length
    have h16 : (L.length + 1) * 16 ≤ 140737488355328 := by omega
    have sn : mapC AVal.t L ++ [AVal.t (Lib.itoa xs[L.length])] = mapC AVal.t (L ++ [Lib.itoa xs[L.length]]) := mapC_snoc ..
    have e2 : L ++ [Lib.itoa xs[L.length]] = (xs.map Lib.itoa).take (L.length + 1) := by
      rw [List.take_succ_eq_append_getElem (by simpa using hlt), ← j2', List.getElem_map]
    have hb18 := in12 hb
    obtain ⟨b1, b2⟩ := id hb
    have hb' : -1000000000000 ≤ xs[L.length] ∧ xs[L.length] ≤ 1000000000000 := ⟨b1, b2⟩
    simp (config := { maxSteps := 1000000 }) +decide only [NoH, Old, OldL, nilQ, nilA, asgn, nz, RechL, ReY, isNew, stepO, XPost, postN, XOk, updN, updU, isEff, avalue, aeff, ASt.eval, ASt.put, ASt.set, ASt.new, Nat.reduceDiv, Nat.reduceAdd, Int.reduceToNat, absV, absC, scalar, alen, acap, conc, flats, live, blkOf, aload, rd, part?, afieldAddr, afield, aindexAddr, cellsOf, afill, places, abuild, optI, asliceV, asliceS, szOk, srcCells, aappend, acopy, astore, amakeSlice, abuildSlice, snapL, mapO, treeL, AVal.tree, AVal.flatT, isFlat, ares, isFz, afroz, afrozB, lookupA, lookupH, tops, if_true, if_false, reduceCtorEq, forall_const, ite_true, ite_false, implies_true, walkS, tabS, Tryd.results15, eq_true hltI, hlt]
    refine callK (den_within xs[L.length] (-1000000000000) 1000000000000) (by first | exact .inl rfl | exact .inr rfl) ?_
    simp (config := { maxSteps := 1000000 }) +decide only [NoH, Old, OldL, nilQ, nilA, asgn, nz, RechL, ReY, isNew, stepO, XPost, postN, XOk, updN, updU, isEff, avalue, aeff, ASt.eval, ASt.put, ASt.set, ASt.new, Nat.reduceDiv, Nat.reduceAdd, Int.reduceToNat, absV, absC, scalar, alen, acap, conc, flats, live, blkOf, aload, rd, part?, afieldAddr, afield, aindexAddr, cellsOf, afill, places, abuild, optI, asliceV, asliceS, szOk, srcCells, aappend, acopy, astore, amakeSlice, abuildSlice, snapL, mapO, treeL, AVal.tree, AVal.flatT, isFlat, ares, isFz, afroz, afrozB, lookupA, lookupH, tops, if_true, if_false, reduceCtorEq, forall_const, ite_true, ite_false, implies_true, walkS, tabS, Tryd.results15, eq_true hb', hlt]
    refine callK (den_Decimal xs[L.length] (by omega) (by omega)) (by first | exact .inl rfl | exact .inr rfl) ?_
    simp (config := { maxSteps := 1000000 }) +decide only [NoH, Old, OldL, nilQ, nilA, asgn, nz, RechL, ReY, isNew, stepO, XPost, postN, XOk, updN, updU, isEff, avalue, aeff, ASt.eval, ASt.put, ASt.set, ASt.new, Nat.reduceDiv, Nat.reduceAdd, Int.reduceToNat, absV, absC, scalar, alen, acap, conc, flats, live, blkOf, aload, rd, part?, afieldAddr, afield, aindexAddr, cellsOf, afill, places, abuild, optI, asliceV, asliceS, szOk, srcCells, aappend, acopy, astore, amakeSlice, abuildSlice, snapL, mapO, treeL, AVal.tree, AVal.flatT, isFlat, ares, isFz, afroz, afrozB, lookupA, lookupH, tops, if_true, if_false, reduceCtorEq, forall_const, ite_true, ite_false, implies_true, walkS, tabS, Tryd.results15, wk, tk, h16, sn, List.replicate_succ, List.flatten_cons, List.flatten_nil]
    refine ⟨⟨(L ++ [Lib.itoa xs[L.length]], G, G + 1), by simp; omega, by simp only [List.length_append, List.length_singleton]; exact e2⟩, ?_, by show xs.length - (L ++ [_]).length < xs.length - L.length; simp; omega⟩
    refine weak_mk rfl (by first | exact Nat.le_refl _ | (simp only [mk_gen]; omega)) ?_ ?_ <;> simp +decide only [w_lookup_nil, w_lookup_cons, ch_ch, ch_lit, lit_ch, wkT, wkH, wkB, WVL, WV_refl', Int.natCast_zero, Int.natCast_add, Int.natCast_one, Nat.sub_self, Nat.sub_zero, List.replicate_zero, List.take_zero, List.nil_append, List.append_nil, fillC_zero, Nat.reduceDiv, Nat.reduceAdd, upd_bk, bk_at, getB_zero, getB_succ, modB_zero, modB_succ, rows_lit, repB_zero, repB_succ, List.length_cons, List.length_nil, upd_upd_same, upd_apply, mk_tmp, mk_heap, mk_gen, lookupA, lookupH, List.getD_cons_zero, List.getD_cons_succ, init_two, tops, Bool.true_and, and_self, and_true, true_and, true_or, if_true, if_false, ite_true, ite_false, reduceCtorEq, reduceIte, List.length_append, List.length_cons, List.length_nil, Nat.zero_add]
  have hltI : ¬ (L.length : Int) < (xs.length : Int) := by omega
  have hN : L.length = xs.length := by omega
  have eL : L = xs.map Lib.itoa := by rw [j2', hN]; exact List.take_of_length_le (by simp)
  have tk : L.take L.length = L := List.take_length
  have hj := join_len 44 14 L fun x h => by
    rw [eL] at h
    obtain ⟨n, hn, rfl⟩ := List.mem_map.1 h
    exact itoa_len12 (hx n hn)
  have hr : Lib.join L [44] = numsT xs := by rw [numsT_eq h0, eL]
  have hne : L ≠ [] := fun h => by rw [h] at hN; simp at hN; omega
  simp (config := { maxSteps := 1000000 }) +decide only [NoH, Old, OldL, nilQ, nilA, asgn, nz, RechL, ReY, isNew, stepO, XPost, postN, XOk, updN, updU, isEff, avalue, aeff, ASt.eval, ASt.put, ASt.set, ASt.new, Nat.reduceDiv, Nat.reduceAdd, Int.reduceToNat, absV, absC, scalar, alen, acap, conc, flats, live, blkOf, aload, rd, part?, afieldAddr, afield, aindexAddr, cellsOf, afill, places, abuild, optI, asliceV, asliceS, szOk, srcCells, aappend, acopy, astore, amakeSlice, abuildSlice, snapL, mapO, treeL, AVal.tree, AVal.flatT, isFlat, ares, isFz, afroz, afrozB, lookupA, lookupH, tops, if_true, if_false, reduceCtorEq, forall_const, ite_true, ite_false, implies_true, walkS, tabS, Tryd.results15, eq_false hltI, tk, treeL_t]
  refine callK (den_Join L 44 hne (by omega) (by omega)) (by first | exact .inl rfl | exact .inr rfl) ?_
  simp (config := { maxSteps := 1000000 }) +decide only [NoH, Old, OldL, nilQ, nilA, asgn, nz, RechL, ReY, isNew, stepO, XPost, postN, XOk, updN, updU, isEff, avalue, aeff, ASt.eval, ASt.put, ASt.set, ASt.new, Nat.reduceDiv, Nat.reduceAdd, Int.reduceToNat, absV, absC, scalar, alen, acap, conc, flats, live, blkOf, aload, rd, part?, afieldAddr, afield, aindexAddr, cellsOf, afill, places, abuild, optI, asliceV, asliceS, szOk, srcCells, aappend, acopy, astore, amakeSlice, abuildSlice, snapL, mapO, treeL, AVal.tree, AVal.flatT, isFlat, ares, isFz, afroz, afrozB, lookupA, lookupH, tops, if_true, if_false, reduceCtorEq, forall_const, ite_true, ite_false, implies_true, walkS, tabS, Tryd.results15, hr]
end Go.Proofs.YtnklfhjpigameaaDoor
