/-
  OWN WORK: items by falling constraints: a stable sort.
-/
import Derived.Test.YtkmhoebopfgpdaaGrC
import Derived.Test.YtkmhoebopfgpdaaOwnW
namespace Go.Proofs.Ytkmhoebopfgpdaa
open Go Go.Own Go.Proofs
set_option maxHeartbeats 4000000
set_option maxRecDepth 20000
set_option linter.unusedSimpArgs false
set_option linter.unusedVariables false
def cmpV (x y : Int) : Int := if x < y then -1 else if y < x then 1 else 0
theorem cmpV_neg {x y : Int} : cmpV x y < 0 ↔ x < y := by
  unfold cmpV
  split
  · rename_i h; exact ⟨fun _ => h, fun _ => by omega⟩
  · split
    · exact ⟨fun h => by omega, fun h => by omega⟩
    · exact ⟨fun h => by omega, fun h => by omega⟩
theorem den_isNaN (x : Int) : Den Try.prog 78 [.i x] (.b false) := by
  refine den_of_awp Try.func78 rfl (by kernel_rfl) (Nat.le_of_ble_eq_true rfl) (by simp only [treeL, AVal.tree, treeL_i, treeL_ints, treeL_u8, treeL_append, Bool.and_self, Bool.and_true, Bool.true_and]) (by first | rfl | simp only [treeL, AVal.tree, treeL_i, treeL_ints, treeL_u8, treeL_append, Bool.and_self, Bool.and_true, Bool.true_and]) mixed (by kernel_rfl) fun hl => ?_
  simp only [lensL, lens, lensL_i, lensL_mapC, maxI, and_true, true_and] at hl
  rw [Try.ntmps78]
  refine ex_start ?_
  simp (config := { maxSteps := 1000000 }) +decide only [NoH, Old, OldL, nilQ, nilA, asgn, nz, RechL, ReY, isNew, stepO, XPost, postN, XOk, updN, updU, isEff, avalue, aeff, ASt.eval, ASt.put, ASt.set, ASt.new, Nat.reduceDiv, Nat.reduceAdd, Int.reduceToNat, absV, absC, scalar, alen, acap, conc, flats, live, blkOf, aload, rd, part?, afieldAddr, afield, aindexAddr, cellsOf, afill, places, abuild, optI, asliceV, asliceS, szOk, srcCells, aappend, acopy, aclear, astore, amakeSlice, abuildSlice, snapL, mapO, treeL, AVal.tree, AVal.flatT, isFlat, ares, isFz, afroz, afrozB, lookupA, lookupH, tops, if_true, if_false, reduceCtorEq, forall_const, ite_true, ite_false, implies_true, walkS, tabS, Try.results78]
theorem den_Compare (a b : Int) : Den Try.prog 47 [.i a, .i b] (.i (cmpV a b)) := by
  unfold cmpV
  refine den_of_awp Try.func47 rfl (by kernel_rfl) (Nat.le_of_ble_eq_true rfl) (by simp only [treeL, AVal.tree, treeL_i, treeL_ints, treeL_u8, treeL_append, Bool.and_self, Bool.and_true, Bool.true_and]) (by first | rfl | simp only [treeL, AVal.tree, treeL_i, treeL_ints, treeL_u8, treeL_append, Bool.and_self, Bool.and_true, Bool.true_and]) mixed (by kernel_rfl) fun hl => ?_
  simp only [lensL, lens, lensL_i, lensL_mapC, maxI, and_true, true_and] at hl
  rw [Try.ntmps47]
  refine ex_start ?_
  simp (config := { maxSteps := 1000000 }) +decide only [NoH, Old, OldL, nilQ, nilA, asgn, nz, RechL, ReY, isNew, stepO, XPost, postN, XOk, updN, updU, isEff, avalue, aeff, ASt.eval, ASt.put, ASt.set, ASt.new, Nat.reduceDiv, Nat.reduceAdd, Int.reduceToNat, absV, absC, scalar, alen, acap, conc, flats, live, blkOf, aload, rd, part?, afieldAddr, afield, aindexAddr, cellsOf, afill, places, abuild, optI, asliceV, asliceS, szOk, srcCells, aappend, acopy, aclear, astore, amakeSlice, abuildSlice, snapL, mapO, treeL, AVal.tree, AVal.flatT, isFlat, ares, isFz, afroz, afrozB, lookupA, lookupH, tops, if_true, if_false, reduceCtorEq, forall_const, ite_true, ite_false, implies_true, walkS, tabS, Try.results47]
  refine callK (den_isNaN a) (by first | exact .inl rfl | exact .inr rfl) ?_
  simp (config := { maxSteps := 1000000 }) +decide only [NoH, Old, OldL, nilQ, nilA, asgn, nz, RechL, ReY, isNew, stepO, XPost, postN, XOk, updN, updU, isEff, avalue, aeff, ASt.eval, ASt.put, ASt.set, ASt.new, Nat.reduceDiv, Nat.reduceAdd, Int.reduceToNat, absV, absC, scalar, alen, acap, conc, flats, live, blkOf, aload, rd, part?, afieldAddr, afield, aindexAddr, cellsOf, afill, places, abuild, optI, asliceV, asliceS, szOk, srcCells, aappend, acopy, aclear, astore, amakeSlice, abuildSlice, snapL, mapO, treeL, AVal.tree, AVal.flatT, isFlat, ares, isFz, afroz, afrozB, lookupA, lookupH, tops, if_true, if_false, reduceCtorEq, forall_const, ite_true, ite_false, implies_true, walkS, tabS, Try.results47]
  refine callK (den_isNaN b) (by first | exact .inl rfl | exact .inr rfl) ?_
  by_cases h1 : a < b
  · rw [if_pos h1]
    simp (config := { maxSteps := 1000000 }) +decide only [NoH, Old, OldL, nilQ, nilA, asgn, nz, RechL, ReY, isNew, stepO, XPost, postN, XOk, updN, updU, isEff, avalue, aeff, ASt.eval, ASt.put, ASt.set, ASt.new, Nat.reduceDiv, Nat.reduceAdd, Int.reduceToNat, absV, absC, scalar, alen, acap, conc, flats, live, blkOf, aload, rd, part?, afieldAddr, afield, aindexAddr, cellsOf, afill, places, abuild, optI, asliceV, asliceS, szOk, srcCells, aappend, acopy, aclear, astore, amakeSlice, abuildSlice, snapL, mapO, treeL, AVal.tree, AVal.flatT, isFlat, ares, isFz, afroz, afrozB, lookupA, lookupH, tops, if_true, if_false, reduceCtorEq, forall_const, ite_true, ite_false, implies_true, walkS, tabS, Try.results47, eq_true h1]
    try rfl
  · rw [if_neg h1]
    by_cases h2 : b < a
    · rw [if_pos h2]
      simp (config := { maxSteps := 1000000 }) +decide only [NoH, Old, OldL, nilQ, nilA, asgn, nz, RechL, ReY, isNew, stepO, XPost, postN, XOk, updN, updU, isEff, avalue, aeff, ASt.eval, ASt.put, ASt.set, ASt.new, Nat.reduceDiv, Nat.reduceAdd, Int.reduceToNat, absV, absC, scalar, alen, acap, conc, flats, live, blkOf, aload, rd, part?, afieldAddr, afield, aindexAddr, cellsOf, afill, places, abuild, optI, asliceV, asliceS, szOk, srcCells, aappend, acopy, aclear, astore, amakeSlice, abuildSlice, snapL, mapO, treeL, AVal.tree, AVal.flatT, isFlat, ares, isFz, afroz, afrozB, lookupA, lookupH, tops, if_true, if_false, reduceCtorEq, forall_const, ite_true, ite_false, implies_true, walkS, tabS, Try.results47, eq_false h1, eq_true h2]
      try rfl
    · rw [if_neg h2]
      simp (config := { maxSteps := 1000000 }) +decide only [NoH, Old, OldL, nilQ, nilA, asgn, nz, RechL, ReY, isNew, stepO, XPost, postN, XOk, updN, updU, isEff, avalue, aeff, ASt.eval, ASt.put, ASt.set, ASt.new, Nat.reduceDiv, Nat.reduceAdd, Int.reduceToNat, absV, absC, scalar, alen, acap, conc, flats, live, blkOf, aload, rd, part?, afieldAddr, afield, aindexAddr, cellsOf, afill, places, abuild, optI, asliceV, asliceS, szOk, srcCells, aappend, acopy, aclear, astore, amakeSlice, abuildSlice, snapL, mapO, treeL, AVal.tree, AVal.flatT, isFlat, ares, isFz, afroz, afrozB, lookupA, lookupH, tops, if_true, if_false, reduceCtorEq, forall_const, ite_true, ite_false, implies_true, walkS, tabS, Try.results47, eq_false h1, eq_false h2]
      try rfl
/-- the constraints of an item -/
def dgV (A : List (List Int)) (it : Int) : Int := rs (A.getD it.toNat [])
theorem den_degree {D A : List (List Int)} (h : PrD D A) (it : Nat) (hi : it < D.length) : Den Try.prog 48 [proV D A, .i it] (.i (dgV A it)) := by
  unfold dgV
  rw [Int.toNat_natCast]
  have hn6 := h.few
  have hlA := h.len
  have hiA : it < A.length := by omega
  have hr := h.rl hiA
  have eA : A.getD it [] = A[it] := by rw [List.getD_eq_getElem?_getD, List.getElem?_eq_getElem hiA, Option.getD_some]
  rw [eA]
  have hb : ∀ k, k ≤ A[it].length → 0 ≤ rs (A[it].take k) ∧ rs (A[it].take k) ≤ 100 * k := by
    intro k
    induction k with
    | zero => intro _; exact ⟨Int.le_refl _, Int.le_refl _⟩
    | succ k ihk =>
      intro hk
      have a := ihk (by omega)
      have b := h.in3 hiA (k := k) (by omega)
      rw [List.take_succ_eq_append_getElem (by omega), rs_snoc]
      omega
  refine den_of_awpG (ghs [] [2]) Try.func48 rfl (by kernel_rfl) (Nat.le_of_ble_eq_true rfl) (by simp only [treeL, AVal.tree, treeL_i, treeL_ints, treeL_u8, treeL_append, Bool.and_self, Bool.and_true, Bool.true_and]) (by first | rfl | simp only [treeL, AVal.tree, treeL_i, treeL_ints, treeL_u8, treeL_append, Bool.and_self, Bool.and_true, Bool.true_and]) mixed (by kernel_rfl) fun hl => ?_
  simp only [lensL, lens, lensL_i, lensL_mapC, maxI, and_true, true_and] at hl
  rw [Try.ntmps48]
  refine ex_start ?_
  simp (config := { maxSteps := 1000000 }) +decide only [NoH, Old, OldL, nilQ, nilA, asgn, nz, RechL, ReY, isNew, stepO, XPost, postN, XOk, updN, updU, isEff, avalue, aeff, ASt.eval, ASt.put, ASt.set, ASt.new, Nat.reduceDiv, Nat.reduceAdd, Int.reduceToNat, absV, absC, scalar, alen, acap, conc, flats, live, blkOf, aload, rd, part?, afieldAddr, afield, aindexAddr, cellsOf, afill, places, abuild, optI, asliceV, asliceS, szOk, srcCells, aappend, acopy, aclear, astore, amakeSlice, abuildSlice, snapL, mapO, treeL, AVal.tree, AVal.flatT, isFlat, ares, isFz, afroz, afrozB, lookupA, lookupH, tops, if_true, if_false, reduceCtorEq, forall_const, ite_true, ite_false, implies_true, walkS, tabS, Try.results48, hiA]
  refine ex_loop (fun k : {k : Nat // k ≤ A[it].length} => mkG (ghs [] [2]) [(5, .i (rs (A[it].take k.1))), (12, ints A[it]), (13, .i A[it].length), (14, .i k.1)] [] 0 23) (fun k => A[it].length - k.1) ⟨0, Nat.zero_le _⟩ ?_ ?_
  · have e0 : rs ([] : List Int) = 0 := rfl
    refine weak_mk rfl (by first | exact Nat.le_refl _ | (simp only [mk_gen]; omega)) ?_ ?_ <;> simp +decide only [w_lookup_nil, w_lookup_cons, ch_ch, ch_lit, lit_ch, wkT, wkH, wkB, WVL, WV_refl', Int.natCast_zero, Int.natCast_add, Int.natCast_one, Nat.sub_self, Nat.sub_zero, List.replicate_zero, List.take_zero, List.nil_append, List.append_nil, fillC_zero, Nat.reduceDiv, Nat.reduceAdd, upd_bk, bk_at, getB_zero, getB_succ, modB_zero, modB_succ, rows_lit, repB_zero, repB_succ, List.length_cons, List.length_nil, upd_upd_same, upd_apply, mk_tmp, mk_heap, mk_gen, lookupA, lookupH, List.getD_cons_zero, List.getD_cons_succ, init_two, tops, Bool.true_and, and_self, and_true, true_and, true_or, if_true, if_false, ite_true, ite_false, reduceCtorEq, reduceIte, List.take_zero, e0]
  rintro ⟨k, hk⟩
  have hk' : k ≤ A[it].length := hk
  by_cases hlt : k < A[it].length
  case neg =>
    have hltI : ¬ (k : Int) < (A[it].length : Int) := by omega
    have et : List.take k A[it] = A[it] := List.take_of_length_le (by omega)
    simp (config := { maxSteps := 1000000 }) +decide only [NoH, Old, OldL, nilQ, nilA, asgn, nz, RechL, ReY, isNew, stepO, XPost, postN, XOk, updN, updU, isEff, avalue, aeff, ASt.eval, ASt.put, ASt.set, ASt.new, Nat.reduceDiv, Nat.reduceAdd, Int.reduceToNat, absV, absC, scalar, alen, acap, conc, flats, live, blkOf, aload, rd, part?, afieldAddr, afield, aindexAddr, cellsOf, afill, places, abuild, optI, asliceV, asliceS, szOk, srcCells, aappend, acopy, aclear, astore, amakeSlice, abuildSlice, snapL, mapO, treeL, AVal.tree, AVal.flatT, isFlat, ares, isFz, afroz, afrozB, lookupA, lookupH, tops, if_true, if_false, reduceCtorEq, forall_const, ite_true, ite_false, implies_true, walkS, tabS, Try.results48, eq_false hltI, et]
  have hltI : (k : Int) < (A[it].length : Int) := by omega
  have h1 := hb (k + 1) hlt
  have e1 : rs (A[it].take (k + 1)) = rs (A[it].take k) + A[it][k] := by rw [List.take_succ_eq_append_getElem hlt, rs_snoc]
  have hw : IntKind.i64.wrap ((k : Int) + 1) = ((k + 1 : Nat) : Int) := wrap64 (by omega) (by omega)
  have hw2 : IntKind.i64.wrap (rs (A[it].take k) + A[it][k]) = rs (A[it].take (k + 1)) := (wrap64 (by omega) (by omega)).trans e1.symm
  simp (config := { maxSteps := 1000000 }) +decide only [NoH, Old, OldL, nilQ, nilA, asgn, nz, RechL, ReY, isNew, stepO, XPost, postN, XOk, updN, updU, isEff, avalue, aeff, ASt.eval, ASt.put, ASt.set, ASt.new, Nat.reduceDiv, Nat.reduceAdd, Int.reduceToNat, absV, absC, scalar, alen, acap, conc, flats, live, blkOf, aload, rd, part?, afieldAddr, afield, aindexAddr, cellsOf, afill, places, abuild, optI, asliceV, asliceS, szOk, srcCells, aappend, acopy, aclear, astore, amakeSlice, abuildSlice, snapL, mapO, treeL, AVal.tree, AVal.flatT, isFlat, ares, isFz, afroz, afrozB, lookupA, lookupH, tops, if_true, if_false, reduceCtorEq, forall_const, ite_true, ite_false, implies_true, walkS, tabS, Try.results48, hlt, eq_true hltI, hw, hw2]
  refine ⟨⟨k + 1, hlt⟩, ?_, by show A[it].length - (k + 1) < A[it].length - k; omega⟩
  refine weak_mk rfl (by first | exact Nat.le_refl _ | (simp only [mk_gen]; omega)) ?_ ?_ <;> simp +decide only [w_lookup_nil, w_lookup_cons, ch_ch, ch_lit, lit_ch, wkT, wkH, wkB, WVL, WV_refl', Int.natCast_zero, Int.natCast_add, Int.natCast_one, Nat.sub_self, Nat.sub_zero, List.replicate_zero, List.take_zero, List.nil_append, List.append_nil, fillC_zero, Nat.reduceDiv, Nat.reduceAdd, upd_bk, bk_at, getB_zero, getB_succ, modB_zero, modB_succ, rows_lit, repB_zero, repB_succ, List.length_cons, List.length_nil, upd_upd_same, upd_apply, mk_tmp, mk_heap, mk_gen, lookupA, lookupH, List.getD_cons_zero, List.getD_cons_succ, init_two, tops, Bool.true_and, and_self, and_true, true_and, true_or, if_true, if_false, ite_true, ite_false, reduceCtorEq, reduceIte]
theorem den_do1 {D A : List (List Int)} (h : PrD D A) (a b : Nat) (ha : a < D.length) (hb : b < D.length) : Den Try.prog 46 [.i a, .i b, proP D A] (.i (cmpV (dgV A b) (dgV A a))) := by
  refine den_of_awp Try.func46 rfl (by kernel_rfl) (Nat.le_of_ble_eq_true rfl) (by simp only [treeL, AVal.tree, treeL_i, treeL_ints, treeL_u8, treeL_append, Bool.and_self, Bool.and_true, Bool.true_and]) (by first | rfl | simp only [treeL, AVal.tree, treeL_i, treeL_ints, treeL_u8, treeL_append, Bool.and_self, Bool.and_true, Bool.true_and]) mixed (by kernel_rfl) fun hl => ?_
  simp only [lensL, lens, lensL_i, lensL_mapC, maxI, and_true, true_and] at hl
  rw [Try.ntmps46]
  refine ex_start ?_
  simp (config := { maxSteps := 1000000 }) +decide only [NoH, Old, OldL, nilQ, nilA, asgn, nz, RechL, ReY, isNew, stepO, XPost, postN, XOk, updN, updU, isEff, avalue, aeff, ASt.eval, ASt.put, ASt.set, ASt.new, Nat.reduceDiv, Nat.reduceAdd, Int.reduceToNat, absV, absC, scalar, alen, acap, conc, flats, live, blkOf, aload, rd, part?, afieldAddr, afield, aindexAddr, cellsOf, afill, places, abuild, optI, asliceV, asliceS, szOk, srcCells, aappend, acopy, aclear, astore, amakeSlice, abuildSlice, snapL, mapO, treeL, AVal.tree, AVal.flatT, isFlat, ares, isFz, afroz, afrozB, lookupA, lookupH, tops, if_true, if_false, reduceCtorEq, forall_const, ite_true, ite_false, implies_true, walkS, tabS, Try.results46]
  refine callK (den_degree h b hb) (by first | exact .inl rfl | exact .inr rfl) ?_
  simp (config := { maxSteps := 1000000 }) +decide only [NoH, Old, OldL, nilQ, nilA, asgn, nz, RechL, ReY, isNew, stepO, XPost, postN, XOk, updN, updU, isEff, avalue, aeff, ASt.eval, ASt.put, ASt.set, ASt.new, Nat.reduceDiv, Nat.reduceAdd, Int.reduceToNat, absV, absC, scalar, alen, acap, conc, flats, live, blkOf, aload, rd, part?, afieldAddr, afield, aindexAddr, cellsOf, afill, places, abuild, optI, asliceV, asliceS, szOk, srcCells, aappend, acopy, aclear, astore, amakeSlice, abuildSlice, snapL, mapO, treeL, AVal.tree, AVal.flatT, isFlat, ares, isFz, afroz, afrozB, lookupA, lookupH, tops, if_true, if_false, reduceCtorEq, forall_const, ite_true, ite_false, implies_true, walkS, tabS, Try.results46]
  refine callK (den_degree h a ha) (by first | exact .inl rfl | exact .inr rfl) ?_
  simp (config := { maxSteps := 1000000 }) +decide only [NoH, Old, OldL, nilQ, nilA, asgn, nz, RechL, ReY, isNew, stepO, XPost, postN, XOk, updN, updU, isEff, avalue, aeff, ASt.eval, ASt.put, ASt.set, ASt.new, Nat.reduceDiv, Nat.reduceAdd, Int.reduceToNat, absV, absC, scalar, alen, acap, conc, flats, live, blkOf, aload, rd, part?, afieldAddr, afield, aindexAddr, cellsOf, afill, places, abuild, optI, asliceV, asliceS, szOk, srcCells, aappend, acopy, aclear, astore, amakeSlice, abuildSlice, snapL, mapO, treeL, AVal.tree, AVal.flatT, isFlat, ares, isFz, afroz, afrozB, lookupA, lookupH, tops, if_true, if_false, reduceCtorEq, forall_const, ite_true, ite_false, implies_true, walkS, tabS, Try.results46]
  refine callK (den_Compare (dgV A b) (dgV A a)) (by first | exact .inl rfl | exact .inr rfl) ?_
  simp (config := { maxSteps := 1000000 }) +decide only [NoH, Old, OldL, nilQ, nilA, asgn, nz, RechL, ReY, isNew, stepO, XPost, postN, XOk, updN, updU, isEff, avalue, aeff, ASt.eval, ASt.put, ASt.set, ASt.new, Nat.reduceDiv, Nat.reduceAdd, Int.reduceToNat, absV, absC, scalar, alen, acap, conc, flats, live, blkOf, aload, rd, part?, afieldAddr, afield, aindexAddr, cellsOf, afill, places, abuild, optI, asliceV, asliceS, szOk, srcCells, aappend, acopy, aclear, astore, amakeSlice, abuildSlice, snapL, mapO, treeL, AVal.tree, AVal.flatT, isFlat, ares, isFz, afroz, afrozB, lookupA, lookupH, tops, if_true, if_false, reduceCtorEq, forall_const, ite_true, ite_false, implies_true, walkS, tabS, Try.results46]
/-- the order: constraints fall; equals rise -/
def ltO (A : List (List Int)) (x y : Int) : Prop := dgV A y < dgV A x ∨ (dgV A x = dgV A y ∧ x < y)
theorem ltO_trans {A : List (List Int)} {x y z : Int} (h1 : ltO A x y) (h2 : ltO A y z) : ltO A x z := by
  unfold ltO at *
  omega
structure OrdOk (A : List (List Int)) (n : Nat) (ys : List Int) : Prop where
  perm : ys.Perm ((List.range n).map fun i : Nat => (i : Int))
  pw : ys.Pairwise (ltO A)
theorem OrdOk.len {A : List (List Int)} {n : Nat} {ys : List Int} (h : OrdOk A n ys) : ys.length = n := by
  have := h.perm.length_eq
  simpa using this
/-- the state of the sort behind the first i items -/
structure InsP (A : List (List Int)) (i : Nat) (P : List Int) : Prop where
  perm : P.Perm ((List.range i).map fun k : Nat => (k : Int))
  pw : P.Pairwise (ltO A)
theorem InsP.len {A : List (List Int)} {i : Nat} {P : List Int} (h : InsP A i P) : P.length = i := by
  have := h.perm.length_eq
  simpa using this
theorem InsP.mem {A : List (List Int)} {i : Nat} {P : List Int} (h : InsP A i P) : ∀ x ∈ P, ∃ k : Nat, x = k ∧ k < i := fun x hx => by
  have := h.perm.mem_iff.1 hx
  obtain ⟨k, hk, rfl⟩ := List.mem_map.1 this
  exact ⟨k, rfl, List.mem_range.1 hk⟩
/-- an item finds its place -/
structure InsQ (A : List (List Int)) (i : Nat) (P U V : List Int) : Prop where
  eq : P = U ++ V
  lt : ∀ b ∈ V, ltO A i b
theorem InsQ.done {A : List (List Int)} {i : Nat} {P U V : List Int} (h : InsP A i P) (q : InsQ A i P U V) (hl : U = [] ∨ ∃ U' y, U = U' ++ [y] ∧ ¬ dgV A y < dgV A i) : InsP A (i + 1) (U ++ (i : Int) :: V) := by
  refine ⟨?_, ?_⟩
  · have e : ((List.range (i + 1)).map fun k : Nat => (k : Int)) = ((List.range i).map fun k : Nat => (k : Int)) ++ [(i : Int)] := by simp [List.range_succ]
    rw [e]
    have h1 : (U ++ (i : Int) :: V).Perm ((U ++ V) ++ [(i : Int)]) := by
      rw [List.append_assoc]
      exact List.Perm.append_left U (List.perm_append_singleton _ _).symm
    refine h1.trans ?_
    rw [← q.eq]
    exact List.Perm.append_right _ h.perm
  · have hp := h.pw
    rw [q.eq, List.pairwise_append] at hp
    obtain ⟨p1, p2, p3⟩ := hp
    rw [List.pairwise_append, List.pairwise_cons]
    refine ⟨p1, ⟨q.lt, p2⟩, fun a ha b hb => ?_⟩
    have hai : ltO A a i := by
      rcases hl with rfl | ⟨U', y, rfl, hy⟩
      · simp at ha
      · have hym : y ∈ P := by rw [q.eq]; simp
        obtain ⟨k, rfl, hk⟩ := h.mem y hym
        have hyi : ltO A k i := by unfold ltO; omega
        rcases List.mem_append.1 ha with ha | ha
        · have := (List.pairwise_append.1 p1).2.2 a ha k (by simp)
          exact ltO_trans this hyi
        · simp only [List.mem_singleton] at ha
          subst ha
          exact hyi
    rcases List.mem_cons.1 hb with rfl | hb
    · exact hai
    · exact p3 a ha b hb
theorem InsQ.step {A : List (List Int)} {i : Nat} {P U V : List Int} {y : Int} (h : InsP A i P) (q : InsQ A i P (U ++ [y]) V) (hy : dgV A y < dgV A i) : InsQ A i P U (y :: V) := by
  refine ⟨by rw [q.eq]; simp, fun b hb => ?_⟩
  rcases List.mem_cons.1 hb with rfl | hb
  · exact .inl hy
  · exact q.lt b hb
/-- the list while an item finds its place -/
def insY (i : Nat) (U V R : List Int) : List Int := U ++ (i : Int) :: (V ++ R)
theorem insY_at (i : Nat) (U V R : List Int) : (insY i U V R)[U.length]? = some (i : Int) := by simp [insY]
theorem insY_last (i : Nat) (U V R : List Int) (y : Int) : (insY i (U ++ [y]) V R)[U.length]? = some y := by simp [insY]
theorem insY_swap (i : Nat) (U V R : List Int) (y : Int) : ((insY i (U ++ [y]) V R).set (U.length + 1) y).set U.length (i : Int) = insY i U (y :: V) R := by
  unfold insY
  apply List.ext_getElem?
  intro k
  simp only [List.getElem?_set, List.length_set]
  by_cases h1 : U.length = k
  · subst h1
    simp
  · rw [if_neg h1]
    by_cases h2 : U.length + 1 = k
    · subst h2
      simp
    · rw [if_neg h2]
      by_cases h3 : k < U.length
      · rw [List.getElem?_append_left (by simp; omega), List.getElem?_append_left h3, List.getElem?_append_left h3]
      · rw [List.getElem?_append_right (by simp; omega), List.getElem?_append_right (by omega)]
        obtain ⟨m, rfl⟩ : ∃ m, k = U.length + 2 + m := ⟨k - (U.length + 2), by omega⟩
        rw [show U.length + 2 + m - (U ++ [y]).length = m + 1 by simp; omega, show U.length + 2 + m - U.length = m + 2 by omega]
        simp
abbrev cmD (D A : List (List Int)) : AVal := .clo 46 [proP D A]
theorem deny_insertion {D A : List (List Int)} (h : PrD D A) (xs : List Int) (hx : xs = (List.range D.length).map fun i : Nat => (i : Int)) : DenY Try.prog 101 [xints xs, xi 0, xi D.length, .v (cmD D A)] (OrdOk A D.length) (fun ys => [xints ys, xi 0, xi D.length, .v (cmD D A)]) (fun _ => .tup []) := by
  have hn := h.few
  have hn1 := h.pos
  have hl0 : xs.length = D.length := by rw [hx]; simp
  have t0 : treeL [proP D A] = true := by simp only [treeL, AVal.tree, treeL_ints, treeL_i, Bool.and_self]
  have txs : List.take D.length xs = xs := List.take_of_length_le (by omega)
  rw [show xints xs = .ol 1 (mapC xi xs) D.length by show XT.ol _ _ _ = _; rw [hl0]]
  have gx : ∀ k : Nat, k < D.length → xs.drop k = (k : Int) :: xs.drop (k + 1) := fun k hk => by
    have hk2 : k < xs.length := by omega
    rw [List.drop_eq_getElem_cons hk2]
    congr 1
    simp [hx]
  have e1 : [(0 : Int)] ++ xs.drop 1 = xs := by
    have := gx 0 (by omega)
    rw [List.drop_zero] at this
    rw [this]
    rfl
  have i0 : InsP A 1 [(0 : Int)] := ⟨by simp, by simp⟩
  refine denY_of_awpG gh0 Try.func101 rfl (by kernel_rfl) (Nat.le_of_ble_eq_true rfl) (by simp +decide only [w_embA_nil, w_embA_cons, w_emb_v, w_emb_ol, w_emb_op, w_emb_agg, w_emb_tup, w_embL_nil, w_embL_cons, embL_i, List.map_cons, List.map_nil, List.nil_append, List.append_nil, List.cons_append, List.nodup_cons, List.nodup_nil, List.mem_cons, List.mem_nil_iff, List.not_mem_nil, ch_ch, ch_lit, lit_ch, Nat.reduceAdd]) mixed (by kernel_rfl) fun hl => ?_
  simp only [xlensL, xlens, lensL, lens, lensL_i, lensL_mapC, xlensL_i, maxI, and_true, true_and] at hl
  rw [Try.ntmps101]
  refine ex_start ?_
  simp (config := { maxSteps := 1000000 }) +decide only [NoH, Old, OldL, nilQ, nilA, asgn, nz, RechL, ReY, isNew, stepO, XPost, postN, XOk, updN, updU, isEff, avalue, aeff, ASt.eval, ASt.put, ASt.set, ASt.new, Nat.reduceDiv, Nat.reduceAdd, Int.reduceToNat, absV, absC, scalar, alen, acap, conc, flats, live, blkOf, aload, rd, part?, afieldAddr, afield, aindexAddr, cellsOf, afill, places, abuild, optI, asliceV, asliceS, szOk, srcCells, aappend, acopy, aclear, astore, amakeSlice, abuildSlice, snapL, mapO, treeL, AVal.tree, AVal.flatT, isFlat, ares, isFz, afroz, afrozB, lookupA, lookupH, tops, if_true, if_false, reduceCtorEq, forall_const, ite_true, ite_false, implies_true, walkS, tabS, Try.results101]
  refine ex_loop (fun p : {p : Nat × List Int × Nat // 1 ≤ p.1 ∧ p.1 ≤ D.length ∧ InsP A p.1 p.2.1} => mk [(0, .own 0 0 0 D.length), (1, .i 0), (2, .i D.length), (3, cmD D A), (8, .i p.1.1)] [(0, ⟨0, 1, mapC AVal.i (p.1.2.1 ++ xs.drop p.1.1)⟩)] p.1.2.2 53) (fun p => D.length - p.1.1) ⟨(1, [0], 1), Nat.le_refl _, hn1, i0⟩ ?_ ?_
  · have e2 : 0 :: xs.drop 1 = xs := e1
    have w01 : IntKind.i64.wrap (0 + 1) = 1 := wrap64 (by omega) (by omega)
    refine weak_mk rfl (by first | exact Nat.le_refl _ | (simp only [mk_gen]; omega)) ?_ ?_ <;> simp +decide only [w_lookup_nil, w_lookup_cons, ch_ch, ch_lit, lit_ch, wkT, wkH, wkB, WVL, WV_refl', Int.natCast_zero, Int.natCast_add, Int.natCast_one, Nat.sub_self, Nat.sub_zero, List.replicate_zero, List.take_zero, List.nil_append, List.append_nil, fillC_zero, Nat.reduceDiv, Nat.reduceAdd, upd_bk, bk_at, getB_zero, getB_succ, modB_zero, modB_succ, rows_lit, repB_zero, repB_succ, List.length_cons, List.length_nil, upd_upd_same, upd_apply, mk_tmp, mk_heap, mk_gen, lookupA, lookupH, List.getD_cons_zero, List.getD_cons_succ, init_two, tops, Bool.true_and, and_self, and_true, true_and, true_or, if_true, if_false, ite_true, ite_false, reduceCtorEq, reduceIte, e2, w01, List.cons_append]
  rintro ⟨⟨i, P, G⟩, q1, q2, q3⟩
  have q1' : 1 ≤ i := q1
  have q2' : i ≤ D.length := q2
  have q3' : InsP A i P := q3
  by_cases ilt : i < D.length
  case neg =>
    have e : i = D.length := by omega
    subst e
    have iI : ¬ (D.length : Int) < (D.length : Int) := by omega
    have ed : P ++ xs.drop D.length = P := by rw [List.drop_of_length_le (by omega), List.append_nil]
    have lP := q3'.len
    have tP : List.take D.length P = P := List.take_of_length_le (by omega)
    rw [ed]
    simp (config := { maxSteps := 1000000 }) +decide only [NoH, Old, OldL, nilQ, nilA, asgn, nz, RechL, ReY, isNew, stepO, XPost, postN, XOk, updN, updU, isEff, avalue, aeff, ASt.eval, ASt.put, ASt.set, ASt.new, Nat.reduceDiv, Nat.reduceAdd, Int.reduceToNat, absV, absC, scalar, alen, acap, conc, flats, live, blkOf, aload, rd, part?, afieldAddr, afield, aindexAddr, cellsOf, afill, places, abuild, optI, asliceV, asliceS, szOk, srcCells, aappend, acopy, aclear, astore, amakeSlice, abuildSlice, snapL, mapO, treeL, AVal.tree, AVal.flatT, isFlat, ares, isFz, afroz, afrozB, lookupA, lookupH, tops, if_true, if_false, reduceCtorEq, forall_const, ite_true, ite_false, implies_true, walkS, tabS, Try.results101, eq_false iI]
    refine yret P ⟨q3'.perm, q3'.pw⟩ ?_
    simp (config := { maxSteps := 1000000 }) +decide only [NoH, Old, OldL, nilQ, nilA, asgn, nz, RechL, ReY, isNew, stepO, XPost, postN, XOk, updN, updU, isEff, avalue, aeff, ASt.eval, ASt.put, ASt.set, ASt.new, Nat.reduceDiv, Nat.reduceAdd, Int.reduceToNat, absV, absC, scalar, alen, acap, conc, flats, live, blkOf, aload, rd, part?, afieldAddr, afield, aindexAddr, cellsOf, afill, places, abuild, optI, asliceV, asliceS, szOk, srcCells, aappend, acopy, aclear, astore, amakeSlice, abuildSlice, snapL, mapO, treeL, AVal.tree, AVal.flatT, isFlat, ares, isFz, afroz, afrozB, lookupA, lookupH, tops, if_true, if_false, reduceCtorEq, forall_const, ite_true, ite_false, implies_true, walkS, tabS, Try.results101, lP, tP, one_0, t0, treeL_i]
  have iI : (i : Int) < (D.length : Int) := by omega
  have wi : IntKind.i64.wrap ((i : Int) + 1) = ((i + 1 : Nat) : Int) := wrap64 (by omega) (by omega)
  have lR : (xs.drop (i + 1)).length = D.length - (i + 1) := by rw [List.length_drop, hl0]
  obtain ⟨R, hR⟩ : ∃ R, xs.drop (i + 1) = R := ⟨_, rfl⟩
  have lY : ∀ U V, InsQ A i P U V → (insY i U V R).length = D.length := fun U V q => by
    have h1 := q3'.len
    rw [q.eq, List.length_append] at h1
    unfold insY
    rw [← hR]
    simp only [List.length_append, List.length_cons, List.length_drop, hl0]
    omega
  have e3 : P ++ xs.drop i = insY i P [] R := by rw [gx i ilt, hR]; rfl
  rw [e3]
  simp (config := { maxSteps := 1000000 }) +decide only [NoH, Old, OldL, nilQ, nilA, asgn, nz, RechL, ReY, isNew, stepO, XPost, postN, XOk, updN, updU, isEff, avalue, aeff, ASt.eval, ASt.put, ASt.set, ASt.new, Nat.reduceDiv, Nat.reduceAdd, Int.reduceToNat, absV, absC, scalar, alen, acap, conc, flats, live, blkOf, aload, rd, part?, afieldAddr, afield, aindexAddr, cellsOf, afill, places, abuild, optI, asliceV, asliceS, szOk, srcCells, aappend, acopy, aclear, astore, amakeSlice, abuildSlice, snapL, mapO, treeL, AVal.tree, AVal.flatT, isFlat, ares, isFz, afroz, afrozB, lookupA, lookupH, tops, if_true, if_false, reduceCtorEq, forall_const, ite_true, ite_false, implies_true, walkS, tabS, Try.results101, eq_true iI]
  refine ex_loop (fun p : {p : List Int × List Int × Nat // InsQ A i P p.1 p.2.1} => mk [(0, .own 0 0 0 D.length), (1, .i 0), (2, .i D.length), (3, cmD D A), (8, .i i), (9, .i p.1.1.length)] [(0, ⟨0, 1, mapC AVal.i (insY i p.1.1 p.1.2.1 R)⟩)] p.1.2.2 53) (fun p => p.1.1.length) ⟨(P, [], G), ⟨by simp, by simp⟩⟩ ?_ ?_
  · have lP := q3'.len
    refine weak_mk rfl (by first | exact Nat.le_refl _ | (simp only [mk_gen]; omega)) ?_ ?_ <;> simp +decide only [w_lookup_nil, w_lookup_cons, ch_ch, ch_lit, lit_ch, wkT, wkH, wkB, WVL, WV_refl', Int.natCast_zero, Int.natCast_add, Int.natCast_one, Nat.sub_self, Nat.sub_zero, List.replicate_zero, List.take_zero, List.nil_append, List.append_nil, fillC_zero, Nat.reduceDiv, Nat.reduceAdd, upd_bk, bk_at, getB_zero, getB_succ, modB_zero, modB_succ, rows_lit, repB_zero, repB_succ, List.length_cons, List.length_nil, upd_upd_same, upd_apply, mk_tmp, mk_heap, mk_gen, lookupA, lookupH, List.getD_cons_zero, List.getD_cons_succ, init_two, tops, Bool.true_and, and_self, and_true, true_and, true_or, if_true, if_false, ite_true, ite_false, reduceCtorEq, reduceIte, lP]
  rintro ⟨⟨U, V, G2⟩, q4⟩
  have q4' : InsQ A i P U V := q4
  have lZ := lY U V q4'
  have fin : (U = [] ∨ ∃ U' y, U = U' ++ [y] ∧ ¬ dgV A y < dgV A i) → InsP A (i + 1) (U ++ (i : Int) :: V) := fun hl => q4'.done q3' hl
  have e4 : insY i U V R = (U ++ (i : Int) :: V) ++ xs.drop (i + 1) := by rw [hR]; simp [insY]
  rcases List.eq_nil_or_concat U with hU | ⟨U', y, hU⟩
  · subst hU
    simp (config := { maxSteps := 1000000 }) +decide only [NoH, Old, OldL, nilQ, nilA, asgn, nz, RechL, ReY, isNew, stepO, XPost, postN, XOk, updN, updU, isEff, avalue, aeff, ASt.eval, ASt.put, ASt.set, ASt.new, Nat.reduceDiv, Nat.reduceAdd, Int.reduceToNat, absV, absC, scalar, alen, acap, conc, flats, live, blkOf, aload, rd, part?, afieldAddr, afield, aindexAddr, cellsOf, afill, places, abuild, optI, asliceV, asliceS, szOk, srcCells, aappend, acopy, aclear, astore, amakeSlice, abuildSlice, snapL, mapO, treeL, AVal.tree, AVal.flatT, isFlat, ares, isFz, afroz, afrozB, lookupA, lookupH, tops, if_true, if_false, reduceCtorEq, forall_const, ite_true, ite_false, implies_true, walkS, tabS, Try.results101, List.length_nil, wi]
    refine ⟨⟨(i + 1, [] ++ (i : Int) :: V, G2), by omega, ilt, fin (.inl rfl)⟩, ?_, by show D.length - (i + 1) < D.length - i; omega⟩
    refine weak_mk rfl (by first | exact Nat.le_refl _ | (simp only [mk_gen]; omega)) ?_ ?_ <;> simp +decide only [w_lookup_nil, w_lookup_cons, ch_ch, ch_lit, lit_ch, wkT, wkH, wkB, WVL, WV_refl', Int.natCast_zero, Int.natCast_add, Int.natCast_one, Nat.sub_self, Nat.sub_zero, List.replicate_zero, List.take_zero, List.nil_append, List.append_nil, fillC_zero, Nat.reduceDiv, Nat.reduceAdd, upd_bk, bk_at, getB_zero, getB_succ, modB_zero, modB_succ, rows_lit, repB_zero, repB_succ, List.length_cons, List.length_nil, upd_upd_same, upd_apply, mk_tmp, mk_heap, mk_gen, lookupA, lookupH, List.getD_cons_zero, List.getD_cons_succ, init_two, tops, Bool.true_and, and_self, and_true, true_and, true_or, if_true, if_false, ite_true, ite_false, reduceCtorEq, reduceIte, e4]
  rw [List.concat_eq_append] at hU
  subst hU
  have hym : y ∈ P := by rw [q4'.eq]; simp
  obtain ⟨k, rfl, hk⟩ := q3'.mem y hym
  have lU : (U' ++ [(k : Int)]).length = U'.length + 1 := by simp
  have at1 := insY_at i (U' ++ [(k : Int)]) V R
  have at2 := insY_last i U' V R (k : Int)
  rw [lU] at at1
  have sw := insY_swap i U' V R (k : Int)
  have lUn : U'.length + 1 < D.length := by
    have h1 := q3'.len
    rw [q4'.eq, List.length_append, lU] at h1
    omega
  have lU0 : U'.length < D.length := by omega
  obtain ⟨Z, hZ⟩ : ∃ Z, insY i (U' ++ [(k : Int)]) V R = Z := ⟨_, rfl⟩
  rw [hZ] at lZ at1 at2 sw e4
  have tZ : List.take D.length Z = Z := List.take_of_length_le (by omega)
  have z1 : U'.length + 1 < Z.length := by omega
  have z2 : U'.length < Z.length := by omega
  have g1 : Z[U'.length + 1] = (i : Int) := by rw [List.getElem?_eq_getElem z1] at at1; exact Option.some.inj at1
  have g2 : Z[U'.length] = (k : Int) := by rw [List.getElem?_eq_getElem z2] at at2; exact Option.some.inj at2
  have c1 : (mapC AVal.i Z)[U'.length + 1]? = some (.i i) := by simp [mapC, at1]
  have c2 : (mapC AVal.i Z)[U'.length]? = some (.i k) := by simp [mapC, at2]
  have p0 : (0 : Int) < ((U'.length + 1 : Nat) : Int) := by omega
  have wm : IntKind.i64.wrap (((U'.length + 1 : Nat) : Int) - 1) = (U'.length : Int) := (wrap64 (by omega) (by omega)).trans (by omega)
  have zI1 : ((U'.length + 1 : Nat) : Int) < (D.length : Int) := by omega
  have zI2 : ((U'.length : Nat) : Int) < (D.length : Int) := by omega
  simp (config := { maxSteps := 1000000 }) +decide only [NoH, Old, OldL, nilQ, nilA, asgn, nz, RechL, ReY, isNew, stepO, XPost, postN, XOk, updN, updU, isEff, avalue, aeff, ASt.eval, ASt.put, ASt.set, ASt.new, Nat.reduceDiv, Nat.reduceAdd, Int.reduceToNat, absV, absC, scalar, alen, acap, conc, flats, live, blkOf, aload, rd, part?, afieldAddr, afield, aindexAddr, cellsOf, afill, places, abuild, optI, asliceV, asliceS, szOk, srcCells, aappend, acopy, aclear, astore, amakeSlice, abuildSlice, snapL, mapO, treeL, AVal.tree, AVal.flatT, isFlat, ares, isFz, afroz, afrozB, lookupA, lookupH, tops, if_true, if_false, reduceCtorEq, forall_const, ite_true, ite_false, implies_true, walkS, tabS, Try.results101, lU, hZ, p0, wm, lUn, lU0, zI1, zI2, lZ, z1, z2, g1, g2, at1, at2, c1, c2, t0, treeL_i]
  refine callK (den_do1 h i k ilt (by omega)) (by first | exact .inl rfl | exact .inr rfl) ?_
  by_cases c : dgV A k < dgV A i
  · have cn : cmpV (dgV A k) (dgV A i) < 0 := cmpV_neg.2 c
    have z3 : U'.length < (Z.set (U'.length + 1) (k : Int)).length := by rw [List.length_set]; omega
    simp (config := { maxSteps := 1000000 }) +decide only [NoH, Old, OldL, nilQ, nilA, asgn, nz, RechL, ReY, isNew, stepO, XPost, postN, XOk, updN, updU, isEff, avalue, aeff, ASt.eval, ASt.put, ASt.set, ASt.new, Nat.reduceDiv, Nat.reduceAdd, Int.reduceToNat, absV, absC, scalar, alen, acap, conc, flats, live, blkOf, aload, rd, part?, afieldAddr, afield, aindexAddr, cellsOf, afill, places, abuild, optI, asliceV, asliceS, szOk, srcCells, aappend, acopy, aclear, astore, amakeSlice, abuildSlice, snapL, mapO, treeL, AVal.tree, AVal.flatT, isFlat, ares, isFz, afroz, afrozB, lookupA, lookupH, tops, if_true, if_false, reduceCtorEq, forall_const, ite_true, ite_false, implies_true, walkS, tabS, Try.results101, eq_true cn, lU, hZ, wm, lUn, lU0, zI1, zI2, lZ, z1, z2, z3, g1, g2, at1, at2, c1, c2, mapC_set, sw]
    refine ⟨⟨(U', (k : Int) :: V, G2), q4'.step q3' c⟩, ?_, by show U'.length < (U' ++ [(k : Int)]).length; rw [lU]; omega⟩
    refine weak_mk rfl (by first | exact Nat.le_refl _ | (simp only [mk_gen]; omega)) ?_ ?_ <;> simp +decide only [w_lookup_nil, w_lookup_cons, ch_ch, ch_lit, lit_ch, wkT, wkH, wkB, WVL, WV_refl', Int.natCast_zero, Int.natCast_add, Int.natCast_one, Nat.sub_self, Nat.sub_zero, List.replicate_zero, List.take_zero, List.nil_append, List.append_nil, fillC_zero, Nat.reduceDiv, Nat.reduceAdd, upd_bk, bk_at, getB_zero, getB_succ, modB_zero, modB_succ, rows_lit, repB_zero, repB_succ, List.length_cons, List.length_nil, upd_upd_same, upd_apply, mk_tmp, mk_heap, mk_gen, lookupA, lookupH, List.getD_cons_zero, List.getD_cons_succ, init_two, tops, Bool.true_and, and_self, and_true, true_and, true_or, if_true, if_false, ite_true, ite_false, reduceCtorEq, reduceIte]
  · have cn : ¬ cmpV (dgV A k) (dgV A i) < 0 := fun h => c (cmpV_neg.1 h)
    simp (config := { maxSteps := 1000000 }) +decide only [NoH, Old, OldL, nilQ, nilA, asgn, nz, RechL, ReY, isNew, stepO, XPost, postN, XOk, updN, updU, isEff, avalue, aeff, ASt.eval, ASt.put, ASt.set, ASt.new, Nat.reduceDiv, Nat.reduceAdd, Int.reduceToNat, absV, absC, scalar, alen, acap, conc, flats, live, blkOf, aload, rd, part?, afieldAddr, afield, aindexAddr, cellsOf, afill, places, abuild, optI, asliceV, asliceS, szOk, srcCells, aappend, acopy, aclear, astore, amakeSlice, abuildSlice, snapL, mapO, treeL, AVal.tree, AVal.flatT, isFlat, ares, isFz, afroz, afrozB, lookupA, lookupH, tops, if_true, if_false, reduceCtorEq, forall_const, ite_true, ite_false, implies_true, walkS, tabS, Try.results101, eq_false cn, wi]
    refine ⟨⟨(i + 1, (U' ++ [(k : Int)]) ++ (i : Int) :: V, G2), by omega, ilt, fin (.inr ⟨U', k, rfl, c⟩)⟩, ?_, by show D.length - (i + 1) < D.length - i; omega⟩
    refine weak_mk rfl (by first | exact Nat.le_refl _ | (simp only [mk_gen]; omega)) ?_ ?_ <;> simp +decide only [w_lookup_nil, w_lookup_cons, ch_ch, ch_lit, lit_ch, wkT, wkH, wkB, WVL, WV_refl', Int.natCast_zero, Int.natCast_add, Int.natCast_one, Nat.sub_self, Nat.sub_zero, List.replicate_zero, List.take_zero, List.nil_append, List.append_nil, fillC_zero, Nat.reduceDiv, Nat.reduceAdd, upd_bk, bk_at, getB_zero, getB_succ, modB_zero, modB_succ, rows_lit, repB_zero, repB_succ, List.length_cons, List.length_nil, upd_upd_same, upd_apply, mk_tmp, mk_heap, mk_gen, lookupA, lookupH, List.getD_cons_zero, List.getD_cons_succ, init_two, tops, Bool.true_and, and_self, and_true, true_and, true_or, if_true, if_false, ite_true, ite_false, reduceCtorEq, reduceIte, e4]
theorem deny_stable {D A : List (List Int)} (h : PrD D A) (h6 : D.length ≤ 6) (xs : List Int) (hx : xs = (List.range D.length).map fun i : Nat => (i : Int)) : DenY Try.prog 77 [xints xs, xi D.length, .v (cmD D A)] (OrdOk A D.length) (fun ys => [xints ys, xi D.length, .v (cmD D A)]) (fun _ => .tup []) := by
  have hl0 : xs.length = D.length := by rw [hx]; simp
  have t0 : treeL [proP D A] = true := by simp only [treeL, AVal.tree, treeL_ints, treeL_i, Bool.and_self]
  have txs : List.take D.length xs = xs := List.take_of_length_le (by omega)
  have n20 : ¬ (20 : Int) ≤ (D.length : Int) := by omega
  have n20' : ¬ (20 : Int) < (D.length : Int) := by omega
  have dI := deny_insertion h xs hx
  rw [show xints xs = .ol 1 (mapC xi xs) D.length by show XT.ol _ _ _ = _; rw [hl0]] at dI ⊢
  refine denY_of_awpG gh0 Try.func77 rfl (by kernel_rfl) (Nat.le_of_ble_eq_true rfl) (by simp +decide only [w_embA_nil, w_embA_cons, w_emb_v, w_emb_ol, w_emb_op, w_emb_agg, w_emb_tup, w_embL_nil, w_embL_cons, embL_i, List.map_cons, List.map_nil, List.nil_append, List.append_nil, List.cons_append, List.nodup_cons, List.nodup_nil, List.mem_cons, List.mem_nil_iff, List.not_mem_nil, ch_ch, ch_lit, lit_ch, Nat.reduceAdd]) mixed (by kernel_rfl) fun hl => ?_
  simp only [xlensL, xlens, lensL, lens, lensL_i, lensL_mapC, xlensL_i, maxI, and_true, true_and] at hl
  rw [Try.ntmps77]
  refine ex_start ?_
  simp (config := { maxSteps := 1000000 }) +decide only [NoH, Old, OldL, nilQ, nilA, asgn, nz, RechL, ReY, isNew, stepO, XPost, postN, XOk, updN, updU, isEff, avalue, aeff, ASt.eval, ASt.put, ASt.set, ASt.new, Nat.reduceDiv, Nat.reduceAdd, Int.reduceToNat, absV, absC, scalar, alen, acap, conc, flats, live, blkOf, aload, rd, part?, afieldAddr, afield, aindexAddr, cellsOf, afill, places, abuild, optI, asliceV, asliceS, szOk, srcCells, aappend, acopy, aclear, astore, amakeSlice, abuildSlice, snapL, mapO, treeL, AVal.tree, AVal.flatT, isFlat, ares, isFz, afroz, afrozB, lookupA, lookupH, tops, if_true, if_false, reduceCtorEq, forall_const, ite_true, ite_false, implies_true, walkS, tabS, Try.results77]
  refine ex_loop (fun _ : Unit => mk [(0, .own 0 0 0 D.length), (1, .i D.length), (2, cmD D A), (6, .i 20), (7, .i 0), (8, .i 20)] [(0, ⟨0, 1, mapC AVal.i xs⟩)] 1 63) (fun _ => 0) () ?_ ?_
  · refine weak_mk rfl (by first | exact Nat.le_refl _ | (simp only [mk_gen]; omega)) ?_ ?_ <;> simp +decide only [w_lookup_nil, w_lookup_cons, ch_ch, ch_lit, lit_ch, wkT, wkH, wkB, WVL, WV_refl', Int.natCast_zero, Int.natCast_add, Int.natCast_one, Nat.sub_self, Nat.sub_zero, List.replicate_zero, List.take_zero, List.nil_append, List.append_nil, fillC_zero, Nat.reduceDiv, Nat.reduceAdd, upd_bk, bk_at, getB_zero, getB_succ, modB_zero, modB_succ, rows_lit, repB_zero, repB_succ, List.length_cons, List.length_nil, upd_upd_same, upd_apply, mk_tmp, mk_heap, mk_gen, lookupA, lookupH, List.getD_cons_zero, List.getD_cons_succ, init_two, tops, Bool.true_and, and_self, and_true, true_and, true_or, if_true, if_false, ite_true, ite_false, reduceCtorEq, reduceIte]
  rintro ⟨⟩
  simp (config := { maxSteps := 1000000 }) +decide only [NoH, Old, OldL, nilQ, nilA, asgn, nz, RechL, ReY, isNew, stepO, XPost, postN, XOk, updN, updU, isEff, avalue, aeff, ASt.eval, ASt.put, ASt.set, ASt.new, Nat.reduceDiv, Nat.reduceAdd, Int.reduceToNat, absV, absC, scalar, alen, acap, conc, flats, live, blkOf, aload, rd, part?, afieldAddr, afield, aindexAddr, cellsOf, afill, places, abuild, optI, asliceV, asliceS, szOk, srcCells, aappend, acopy, aclear, astore, amakeSlice, abuildSlice, snapL, mapO, treeL, AVal.tree, AVal.flatT, isFlat, ares, isFz, afroz, afrozB, lookupA, lookupH, tops, if_true, if_false, reduceCtorEq, forall_const, ite_true, ite_false, implies_true, walkS, tabS, Try.results77, eq_false n20, txs, t0, treeL_i]
  refine callY dI (by simp (config := { maxSteps := 1000000 }) +decide only [NoH, Old, OldL, nilQ, nilA, asgn, nz, RechL, ReY, isNew, stepO, XPost, postN, XOk, updN, updU, isEff, avalue, aeff, ASt.eval, ASt.put, ASt.set, ASt.new, Nat.reduceDiv, Nat.reduceAdd, Int.reduceToNat, absV, absC, scalar, alen, acap, conc, flats, live, blkOf, aload, rd, part?, afieldAddr, afield, aindexAddr, cellsOf, afill, places, abuild, optI, asliceV, asliceS, szOk, srcCells, aappend, acopy, aclear, astore, amakeSlice, abuildSlice, snapL, mapO, treeL, AVal.tree, AVal.flatT, isFlat, ares, isFz, afroz, afrozB, lookupA, lookupH, tops, if_true, if_false, reduceCtorEq, forall_const, ite_true, ite_false, implies_true, walkS, tabS, Try.results77, txs, hl0, t0, treeL_i]) (fun i hi => by
    have lh := OrdOk.len hi
    simp (config := { maxSteps := 1000000 }) +decide only [NoH, Old, OldL, nilQ, nilA, asgn, nz, RechL, ReY, isNew, stepO, XPost, postN, XOk, updN, updU, isEff, avalue, aeff, ASt.eval, ASt.put, ASt.set, ASt.new, Nat.reduceDiv, Nat.reduceAdd, Int.reduceToNat, absV, absC, scalar, alen, acap, conc, flats, live, blkOf, aload, rd, part?, afieldAddr, afield, aindexAddr, cellsOf, afill, places, abuild, optI, asliceV, asliceS, szOk, srcCells, aappend, acopy, aclear, astore, amakeSlice, abuildSlice, snapL, mapO, treeL, AVal.tree, AVal.flatT, isFlat, ares, isFz, afroz, afrozB, lookupA, lookupH, tops, if_true, if_false, reduceCtorEq, forall_const, ite_true, ite_false, implies_true, walkS, tabS, Try.results77, txs, hl0, lh, t0, treeL_i]) ?_
  rintro ys hy
  have hy' : OrdOk A D.length ys := hy
  have ly : ys.length = D.length := by
    have := hy'.perm.length_eq
    simpa using this
  have ty : List.take D.length ys = ys := List.take_of_length_le (by omega)
  simp (config := { maxSteps := 1000000 }) +decide only [NoH, Old, OldL, nilQ, nilA, asgn, nz, RechL, ReY, isNew, stepO, XPost, postN, XOk, updN, updU, isEff, avalue, aeff, ASt.eval, ASt.put, ASt.set, ASt.new, Nat.reduceDiv, Nat.reduceAdd, Int.reduceToNat, absV, absC, scalar, alen, acap, conc, flats, live, blkOf, aload, rd, part?, afieldAddr, afield, aindexAddr, cellsOf, afill, places, abuild, optI, asliceV, asliceS, szOk, srcCells, aappend, acopy, aclear, astore, amakeSlice, abuildSlice, snapL, mapO, treeL, AVal.tree, AVal.flatT, isFlat, ares, isFz, afroz, afrozB, lookupA, lookupH, tops, if_true, if_false, reduceCtorEq, forall_const, ite_true, ite_false, implies_true, walkS, tabS, Try.results77, ly, ty, t0, treeL_i]
  refine ex_loop (fun _ : Unit => mk [(0, .own 0 0 0 D.length), (1, .i D.length), (2, cmD D A), (6, .i 20)] [(0, ⟨0, 1, mapC AVal.i ys⟩)] 2 63) (fun _ => 0) () ?_ ?_
  · refine weak_mk rfl (by first | exact Nat.le_refl _ | (simp only [mk_gen]; omega)) ?_ ?_ <;> simp +decide only [w_lookup_nil, w_lookup_cons, ch_ch, ch_lit, lit_ch, wkT, wkH, wkB, WVL, WV_refl', Int.natCast_zero, Int.natCast_add, Int.natCast_one, Nat.sub_self, Nat.sub_zero, List.replicate_zero, List.take_zero, List.nil_append, List.append_nil, fillC_zero, Nat.reduceDiv, Nat.reduceAdd, upd_bk, bk_at, getB_zero, getB_succ, modB_zero, modB_succ, rows_lit, repB_zero, repB_succ, List.length_cons, List.length_nil, upd_upd_same, upd_apply, mk_tmp, mk_heap, mk_gen, lookupA, lookupH, List.getD_cons_zero, List.getD_cons_succ, init_two, tops, Bool.true_and, and_self, and_true, true_and, true_or, if_true, if_false, ite_true, ite_false, reduceCtorEq, reduceIte]
  rintro ⟨⟩
  simp (config := { maxSteps := 1000000 }) +decide only [NoH, Old, OldL, nilQ, nilA, asgn, nz, RechL, ReY, isNew, stepO, XPost, postN, XOk, updN, updU, isEff, avalue, aeff, ASt.eval, ASt.put, ASt.set, ASt.new, Nat.reduceDiv, Nat.reduceAdd, Int.reduceToNat, absV, absC, scalar, alen, acap, conc, flats, live, blkOf, aload, rd, part?, afieldAddr, afield, aindexAddr, cellsOf, afill, places, abuild, optI, asliceV, asliceS, szOk, srcCells, aappend, acopy, aclear, astore, amakeSlice, abuildSlice, snapL, mapO, treeL, AVal.tree, AVal.flatT, isFlat, ares, isFz, afroz, afrozB, lookupA, lookupH, tops, if_true, if_false, reduceCtorEq, forall_const, ite_true, ite_false, implies_true, walkS, tabS, Try.results77, eq_false n20', ly, ty, t0, treeL_i]
  refine yret ys hy' ?_
  simp (config := { maxSteps := 1000000 }) +decide only [NoH, Old, OldL, nilQ, nilA, asgn, nz, RechL, ReY, isNew, stepO, XPost, postN, XOk, updN, updU, isEff, avalue, aeff, ASt.eval, ASt.put, ASt.set, ASt.new, Nat.reduceDiv, Nat.reduceAdd, Int.reduceToNat, absV, absC, scalar, alen, acap, conc, flats, live, blkOf, aload, rd, part?, afieldAddr, afield, aindexAddr, cellsOf, afill, places, abuild, optI, asliceV, asliceS, szOk, srcCells, aappend, acopy, aclear, astore, amakeSlice, abuildSlice, snapL, mapO, treeL, AVal.tree, AVal.flatT, isFlat, ares, isFz, afroz, afrozB, lookupA, lookupH, tops, if_true, if_false, reduceCtorEq, forall_const, ite_true, ite_false, implies_true, walkS, tabS, Try.results77, ly, ty, one_0, t0, treeL_i]
theorem deny_SortStable {D A : List (List Int)} (h : PrD D A) (h6 : D.length ≤ 6) (xs : List Int) (hx : xs = (List.range D.length).map fun i : Nat => (i : Int)) : DenY Try.prog 45 [xints xs, .v (cmD D A)] (OrdOk A D.length) (fun ys => [xints ys, .v (cmD D A)]) (fun _ => .tup []) := by
  have hl0 : xs.length = D.length := by rw [hx]; simp
  have t0 : treeL [proP D A] = true := by simp only [treeL, AVal.tree, treeL_ints, treeL_i, Bool.and_self]
  have txs : List.take D.length xs = xs := List.take_of_length_le (by omega)
  have dI := deny_stable h h6 xs hx
  rw [show xints xs = .ol 1 (mapC xi xs) D.length by show XT.ol _ _ _ = _; rw [hl0]] at dI ⊢
  refine denY_of_awpG gh0 Try.func45 rfl (by kernel_rfl) (Nat.le_of_ble_eq_true rfl) (by simp +decide only [w_embA_nil, w_embA_cons, w_emb_v, w_emb_ol, w_emb_op, w_emb_agg, w_emb_tup, w_embL_nil, w_embL_cons, embL_i, List.map_cons, List.map_nil, List.nil_append, List.append_nil, List.cons_append, List.nodup_cons, List.nodup_nil, List.mem_cons, List.mem_nil_iff, List.not_mem_nil, ch_ch, ch_lit, lit_ch, Nat.reduceAdd]) mixed (by kernel_rfl) fun hl => ?_
  simp only [xlensL, xlens, lensL, lens, lensL_i, lensL_mapC, xlensL_i, maxI, and_true, true_and] at hl
  rw [Try.ntmps45]
  refine ex_start ?_
  simp (config := { maxSteps := 1000000 }) +decide only [NoH, Old, OldL, nilQ, nilA, asgn, nz, RechL, ReY, isNew, stepO, XPost, postN, XOk, updN, updU, isEff, avalue, aeff, ASt.eval, ASt.put, ASt.set, ASt.new, Nat.reduceDiv, Nat.reduceAdd, Int.reduceToNat, absV, absC, scalar, alen, acap, conc, flats, live, blkOf, aload, rd, part?, afieldAddr, afield, aindexAddr, cellsOf, afill, places, abuild, optI, asliceV, asliceS, szOk, srcCells, aappend, acopy, aclear, astore, amakeSlice, abuildSlice, snapL, mapO, treeL, AVal.tree, AVal.flatT, isFlat, ares, isFz, afroz, afrozB, lookupA, lookupH, tops, if_true, if_false, reduceCtorEq, forall_const, ite_true, ite_false, implies_true, walkS, tabS, Try.results45]
  refine callY dI (by simp (config := { maxSteps := 1000000 }) +decide only [NoH, Old, OldL, nilQ, nilA, asgn, nz, RechL, ReY, isNew, stepO, XPost, postN, XOk, updN, updU, isEff, avalue, aeff, ASt.eval, ASt.put, ASt.set, ASt.new, Nat.reduceDiv, Nat.reduceAdd, Int.reduceToNat, absV, absC, scalar, alen, acap, conc, flats, live, blkOf, aload, rd, part?, afieldAddr, afield, aindexAddr, cellsOf, afill, places, abuild, optI, asliceV, asliceS, szOk, srcCells, aappend, acopy, aclear, astore, amakeSlice, abuildSlice, snapL, mapO, treeL, AVal.tree, AVal.flatT, isFlat, ares, isFz, afroz, afrozB, lookupA, lookupH, tops, if_true, if_false, reduceCtorEq, forall_const, ite_true, ite_false, implies_true, walkS, tabS, Try.results45, txs, hl0, t0, treeL_i]) (fun i hi => by
    have lh := OrdOk.len hi
    simp (config := { maxSteps := 1000000 }) +decide only [NoH, Old, OldL, nilQ, nilA, asgn, nz, RechL, ReY, isNew, stepO, XPost, postN, XOk, updN, updU, isEff, avalue, aeff, ASt.eval, ASt.put, ASt.set, ASt.new, Nat.reduceDiv, Nat.reduceAdd, Int.reduceToNat, absV, absC, scalar, alen, acap, conc, flats, live, blkOf, aload, rd, part?, afieldAddr, afield, aindexAddr, cellsOf, afill, places, abuild, optI, asliceV, asliceS, szOk, srcCells, aappend, acopy, aclear, astore, amakeSlice, abuildSlice, snapL, mapO, treeL, AVal.tree, AVal.flatT, isFlat, ares, isFz, afroz, afrozB, lookupA, lookupH, tops, if_true, if_false, reduceCtorEq, forall_const, ite_true, ite_false, implies_true, walkS, tabS, Try.results45, txs, hl0, lh, t0, treeL_i]) ?_
  rintro ys hy
  have hy' : OrdOk A D.length ys := hy
  have ly : ys.length = D.length := by
    have := hy'.perm.length_eq
    simpa using this
  have ty : List.take D.length ys = ys := List.take_of_length_le (by omega)
  simp (config := { maxSteps := 1000000 }) +decide only [NoH, Old, OldL, nilQ, nilA, asgn, nz, RechL, ReY, isNew, stepO, XPost, postN, XOk, updN, updU, isEff, avalue, aeff, ASt.eval, ASt.put, ASt.set, ASt.new, Nat.reduceDiv, Nat.reduceAdd, Int.reduceToNat, absV, absC, scalar, alen, acap, conc, flats, live, blkOf, aload, rd, part?, afieldAddr, afield, aindexAddr, cellsOf, afill, places, abuild, optI, asliceV, asliceS, szOk, srcCells, aappend, acopy, aclear, astore, amakeSlice, abuildSlice, snapL, mapO, treeL, AVal.tree, AVal.flatT, isFlat, ares, isFz, afroz, afrozB, lookupA, lookupH, tops, if_true, if_false, reduceCtorEq, forall_const, ite_true, ite_false, implies_true, walkS, tabS, Try.results45, ly, ty, t0, treeL_i]
  refine ynormal ys hy' ?_
  simp (config := { maxSteps := 1000000 }) +decide only [NoH, Old, OldL, nilQ, nilA, asgn, nz, RechL, ReY, isNew, stepO, XPost, postN, XOk, updN, updU, isEff, avalue, aeff, ASt.eval, ASt.put, ASt.set, ASt.new, Nat.reduceDiv, Nat.reduceAdd, Int.reduceToNat, absV, absC, scalar, alen, acap, conc, flats, live, blkOf, aload, rd, part?, afieldAddr, afield, aindexAddr, cellsOf, afill, places, abuild, optI, asliceV, asliceS, szOk, srcCells, aappend, acopy, aclear, astore, amakeSlice, abuildSlice, snapL, mapO, treeL, AVal.tree, AVal.flatT, isFlat, ares, isFz, afroz, afrozB, lookupA, lookupH, tops, if_true, if_false, reduceCtorEq, forall_const, ite_true, ite_false, implies_true, walkS, tabS, Try.results45, ly, ty, one_0, t0, treeL_i]
end Go.Proofs.Ytkmhoebopfgpdaa
