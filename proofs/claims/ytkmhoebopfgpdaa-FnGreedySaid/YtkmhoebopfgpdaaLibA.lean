/-
  OWN WORK: contracts of the helpers and library searches that several parts share.
-/
import Derived.Test.YtkmhoebopfgpdaaBase
namespace Go.Proofs.Ytkmhoebopfgpdaa
open Go Go.Own Go.Proofs
set_option maxHeartbeats 4000000
set_option maxRecDepth 20000
set_option linter.unusedSimpArgs false
theorem sem_max (ats : Array TypeId) (t : TypeId) (a b : Int) : semS Try.prog (Builtin.max_ ats t [.int .i64 a, .int .i64 b].toArray) = some (.flat (.int .i64 (if b > a then b else a))) := by
  by_cases h : b > a <;> rfl
theorem sem_mx (ats : Array TypeId) (t : TypeId) (a b : Int) : semS Try.prog (Builtin.max_ ats t [.int .i64 a, .int .i64 b].toArray) = some (.flat (.int .i64 (max a b))) := by
  rw [sem_max]
  congr 3
  split <;> omega
theorem sem_min (ats : Array TypeId) (t : TypeId) (a b : Int) : semS Try.prog (Builtin.min_ ats t [.int .i64 a, .int .i64 b].toArray) = some (.flat (.int .i64 (min a b))) := by
  have e : semS Try.prog (Builtin.min_ ats t [.int .i64 a, .int .i64 b].toArray) = some (.flat (.int .i64 (if b < a then b else a))) := by
    by_cases h : b < a <;> rfl
  rw [e]
  congr 3
  split <;> omega
theorem sem_quo (t : TypeId) (x y : Operand) (k : IntKind) (a b : Int) (h : b ≠ 0) : semS Try.prog (do eqGuard .quo t x y (.int k a) (.int k b); binOp .quo t (.int k a) (.int k b)) = some (.flat (.int k (k.wrap (a.tdiv b)))) := by
  have e : (do eqGuard .quo t x y (.int k a) (.int k b); binOp .quo t (.int k a) (.int k b) : Sem Value) = Op.intDiv .quo k a b := by cases k <;> rfl
  rw [e]
  unfold Op.intDiv
  rw [if_neg h]
  rfl
theorem sem_rem (t : TypeId) (x y : Operand) (k : IntKind) (a b : Int) (h : b ≠ 0) : semS Try.prog (do eqGuard .rem t x y (.int k a) (.int k b); binOp .rem t (.int k a) (.int k b)) = some (.flat (.int k (a.tmod b))) := by
  have e : (do eqGuard .rem t x y (.int k a) (.int k b); binOp .rem t (.int k a) (.int k b) : Sem Value) = Op.intDiv .rem k a b := by cases k <;> rfl
  rw [e]
  unfold Op.intDiv
  rw [if_neg h]
  rfl
theorem WV_frz {s s' : ASt} {β g off n : Nat} {blk : Blk} {cells : List AVal} (h1 : s.heap β = some blk) (h2 : blk.gen = g) (h3 : s'.heap β = none) (h4 : off + n * blk.size ≤ blk.cells.length)
    (h5 : cells = (blk.cells.drop off).take (n * blk.size)) (h6 : treeL cells = true) : WV s s' (.own β g off n) (.lst cells n) :=
  .inr (.inr (.inr (.inl ⟨β, g, off, n, blk, rfl, h1, h2, h3, h4, by rw [h5], h5 ▸ h6⟩)))
/-- what lies in a slice is forgotten -/
theorem WV_fgt {s s' : ASt} {β g off n : Nat} {blk : Blk} (h1 : s.heap β = some blk) (h2 : blk.gen = g) : WV s s' (.own β g off n) (.lst [] n) :=
  .inr (.inr (.inr (.inr (.inl ⟨β, g, off, n, blk, rfl, h1, h2, rfl⟩))))
/-- a variable that nobody writes any more -/
theorem WV_pfz {s s' : ASt} {β g off : Nat} {blk : Blk} {cells : List AVal} (h1 : s.heap β = some blk) (h2 : blk.gen = g) (h3 : s'.heap β = none) (h4 : cells = blk.cells) (h5 : treeL cells = true) : WV s s' (.ptr β g off) (.iptr cells off) :=
  .inr (.inr (.inr (.inr (.inr ⟨β, g, off, blk, rfl, h1, h2, h3, by rw [h4], h4 ▸ h5⟩))))
theorem WV_nl {s s' : ASt} {β g : Nat} {blk : Blk} (h1 : s.heap β = none) (h2 : s'.heap β = some blk) (h3 : blk.gen = g) (h4 : blk.cells = []) : WV s s' .nl (.own β g 0 0) :=
  .inr (.inr (.inl ⟨β, blk, rfl, h1, h2, by rw [h3], h4⟩))
theorem den_l00In (x lo hi : Int) : Den Try.prog 80 [.i x, .i lo, .i hi] (.b (bp (lo ≤ x ∧ x ≤ hi))) := by
  refine den_of_awp Try.func80 rfl (by kernel_rfl) (Nat.le_of_ble_eq_true rfl) (by simp only [treeL, AVal.tree, treeL_i, treeL_ints, treeL_u8, treeL_append, Bool.and_self, Bool.and_true, Bool.true_and]) (by first | rfl | simp only [treeL, AVal.tree, treeL_i, treeL_ints, treeL_u8, treeL_append, Bool.and_self, Bool.and_true, Bool.true_and]) mixed (by kernel_rfl) fun hl => ?_
  simp only [lensL, lens, lensL_i, lensL_mapC, maxI, and_true, true_and] at hl
  rw [Try.ntmps80]
  refine ex_start ?_
  simp (config := { maxSteps := 1000000 }) +decide only [NoH, Old, OldL, nilQ, nilA, asgn, nz, RechL, ReY, isNew, stepO, XPost, postN, XOk, updN, updU, isEff, avalue, aeff, ASt.eval, ASt.put, ASt.set, ASt.new, Nat.reduceDiv, Nat.reduceAdd, Int.reduceToNat, absV, absC, scalar, alen, acap, conc, flats, live, blkOf, aload, rd, part?, afieldAddr, afield, aindexAddr, cellsOf, afill, places, abuild, optI, asliceV, asliceS, szOk, srcCells, aappend, acopy, aclear, astore, amakeSlice, abuildSlice, snapL, mapO, treeL, AVal.tree, AVal.flatT, isFlat, ares, isFz, afroz, afrozB, lookupA, lookupH, tops, if_true, if_false, reduceCtorEq, forall_const, ite_true, ite_false, implies_true, walkS, tabS, Try.results80]
  exact ⟨fun h => by rw [← bp_decide]; exact bp_congr (by simp [h]), fun h h' => h h'.1⟩
theorem den_within (x lo hi : Int) : Den Try.prog 39 [.i x, .i lo, .i hi] (.b (bp (lo ≤ x ∧ x ≤ hi))) := by
  refine den_of_awp Try.func39 rfl (by kernel_rfl) (Nat.le_of_ble_eq_true rfl) (by simp only [treeL, AVal.tree, treeL_i, treeL_ints, treeL_u8, treeL_append, Bool.and_self, Bool.and_true, Bool.true_and]) (by first | rfl | simp only [treeL, AVal.tree, treeL_i, treeL_ints, treeL_u8, treeL_append, Bool.and_self, Bool.and_true, Bool.true_and]) mixed (by kernel_rfl) fun hl => ?_
  simp only [lensL, lens, lensL_i, lensL_mapC, maxI, and_true, true_and] at hl
  rw [Try.ntmps39]
  refine ex_start ?_
  simp (config := { maxSteps := 1000000 }) +decide only [NoH, Old, OldL, nilQ, nilA, asgn, nz, RechL, ReY, isNew, stepO, XPost, postN, XOk, updN, updU, isEff, avalue, aeff, ASt.eval, ASt.put, ASt.set, ASt.new, Nat.reduceDiv, Nat.reduceAdd, Int.reduceToNat, absV, absC, scalar, alen, acap, conc, flats, live, blkOf, aload, rd, part?, afieldAddr, afield, aindexAddr, cellsOf, afill, places, abuild, optI, asliceV, asliceS, szOk, srcCells, aappend, acopy, aclear, astore, amakeSlice, abuildSlice, snapL, mapO, treeL, AVal.tree, AVal.flatT, isFlat, ares, isFz, afroz, afrozB, lookupA, lookupH, tops, if_true, if_false, reduceCtorEq, forall_const, ite_true, ite_false, implies_true, walkS, tabS, Try.results39]
  exact ⟨fun h => by rw [← bp_decide]; exact bp_congr (by simp [h]), fun h h' => h h'.1⟩
def Rises (lo hi : Int) (xs : List Int) : Prop := ∀ i (h : i < xs.length), (lo ≤ xs[i] ∧ xs[i] ≤ hi) ∧ (0 < i → xs[i - 1] < xs[i])
theorem den_l00Rises (xs : List Int) (lo hi : Int) : Den Try.prog 103 [ints xs, .i lo, .i hi] (.b (bp (Rises lo hi xs))) := by
  refine den_of_awp Try.func103 rfl (by kernel_rfl) (Nat.le_of_ble_eq_true rfl) (by simp only [treeL, AVal.tree, treeL_i, treeL_ints, treeL_u8, treeL_append, Bool.and_self, Bool.and_true, Bool.true_and]) (by first | rfl | simp only [treeL, AVal.tree, treeL_i, treeL_ints, treeL_u8, treeL_append, Bool.and_self, Bool.and_true, Bool.true_and]) mixed (by kernel_rfl) fun hl => ?_
  simp only [lensL, lens, lensL_i, lensL_mapC, maxI, and_true, true_and] at hl
  rw [Try.ntmps103]
  refine ex_start ?_
  simp (config := { maxSteps := 1000000 }) +decide only [NoH, Old, OldL, nilQ, nilA, asgn, nz, RechL, ReY, isNew, stepO, XPost, postN, XOk, updN, updU, isEff, avalue, aeff, ASt.eval, ASt.put, ASt.set, ASt.new, Nat.reduceDiv, Nat.reduceAdd, Int.reduceToNat, absV, absC, scalar, alen, acap, conc, flats, live, blkOf, aload, rd, part?, afieldAddr, afield, aindexAddr, cellsOf, afill, places, abuild, optI, asliceV, asliceS, szOk, srcCells, aappend, acopy, aclear, astore, amakeSlice, abuildSlice, snapL, mapO, treeL, AVal.tree, AVal.flatT, isFlat, ares, isFz, afroz, afrozB, lookupA, lookupH, tops, if_true, if_false, reduceCtorEq, forall_const, ite_true, ite_false, implies_true, walkS, tabS, Try.results103]
  refine ex_loop (fun k : {k : Nat // k ≤ xs.length ∧ ∀ i (h : i < xs.length), i < k → (lo ≤ xs[i] ∧ xs[i] ≤ hi) ∧ (0 < i → xs[i - 1] < xs[i])} => mk [(0, ints xs), (1, .i lo), (2, .i hi), (7, .i k)] [] 0 38) (fun k => xs.length - k) ⟨0, by simp⟩ ?_ ?_
  · refine weak_mk rfl (by first | exact Nat.le_refl _ | (simp only [mk_gen]; omega)) ?_ ?_ <;> simp +decide only [w_lookup_nil, w_lookup_cons, ch_ch, ch_lit, lit_ch, wkT, wkH, wkB, WVL, WV_refl', Int.natCast_zero, Int.natCast_add, Int.natCast_one, Nat.sub_self, Nat.sub_zero, List.replicate_zero, List.take_zero, List.nil_append, List.append_nil, fillC_zero, Nat.reduceDiv, Nat.reduceAdd, upd_bk, bk_at, getB_zero, getB_succ, modB_zero, modB_succ, rows_lit, repB_zero, repB_succ, List.length_cons, List.length_nil, upd_upd_same, upd_apply, mk_tmp, mk_heap, mk_gen, lookupA, lookupH, List.getD_cons_zero, List.getD_cons_succ, init_two, tops, Bool.true_and, and_self, and_true, true_and, true_or, if_true, if_false, ite_true, ite_false, reduceCtorEq, reduceIte]
  · rintro ⟨k, hk, hkk⟩
    by_cases hlt : k < xs.length
    · have hw : IntKind.i64.wrap ((k : Int) + 1) = ((k + 1 : Nat) : Int) := wrap64 (by omega) (by omega)
      by_cases h0 : 0 < k
      · have hw1 : IntKind.i64.wrap ((k : Int) - 1) = ((k - 1 : Nat) : Int) := (wrap64 (by omega) (by omega)).trans (by omega)
        have hlt1 : k - 1 < xs.length := by omega
        have h0' : (0 : Int) < k := by omega
        simp (config := { maxSteps := 1000000 }) +decide only [NoH, Old, OldL, nilQ, nilA, asgn, nz, RechL, ReY, isNew, stepO, XPost, postN, XOk, updN, updU, isEff, avalue, aeff, ASt.eval, ASt.put, ASt.set, ASt.new, Nat.reduceDiv, Nat.reduceAdd, Int.reduceToNat, absV, absC, scalar, alen, acap, conc, flats, live, blkOf, aload, rd, part?, afieldAddr, afield, aindexAddr, cellsOf, afill, places, abuild, optI, asliceV, asliceS, szOk, srcCells, aappend, acopy, aclear, astore, amakeSlice, abuildSlice, snapL, mapO, treeL, AVal.tree, AVal.flatT, isFlat, ares, isFz, afroz, afrozB, lookupA, lookupH, tops, if_true, if_false, reduceCtorEq, forall_const, ite_true, ite_false, implies_true, walkS, tabS, Try.results103, hw, hlt, hw1, hlt1, h0']
        refine callK (den_l00In _ _ _) (by first | exact .inl rfl | exact .inr rfl) ?_
        simp (config := { maxSteps := 1000000 }) +decide only [NoH, Old, OldL, nilQ, nilA, asgn, nz, RechL, ReY, isNew, stepO, XPost, postN, XOk, updN, updU, isEff, avalue, aeff, ASt.eval, ASt.put, ASt.set, ASt.new, Nat.reduceDiv, Nat.reduceAdd, Int.reduceToNat, absV, absC, scalar, alen, acap, conc, flats, live, blkOf, aload, rd, part?, afieldAddr, afield, aindexAddr, cellsOf, afill, places, abuild, optI, asliceV, asliceS, szOk, srcCells, aappend, acopy, aclear, astore, amakeSlice, abuildSlice, snapL, mapO, treeL, AVal.tree, AVal.flatT, isFlat, ares, isFz, afroz, afrozB, lookupA, lookupH, tops, if_true, if_false, reduceCtorEq, forall_const, ite_true, ite_false, implies_true, walkS, tabS, Try.results103, hw, hlt, hw1, hlt1, h0']
        refine ⟨fun h => ⟨fun hb hr => ?_, fun hb => ⟨⟨k + 1, hlt, ?_⟩, ?_, ?_⟩⟩, fun h hr => h (hr k hlt).1⟩
        · have := (hr k hlt).2 h0; omega
        · intro i hi hik
          by_cases e : i = k
          · subst e; exact ⟨h, fun _ => by omega⟩
          · exact hkk i hi (by omega)
        · refine weak_mk rfl (by first | exact Nat.le_refl _ | (simp only [mk_gen]; omega)) ?_ ?_ <;> simp +decide only [w_lookup_nil, w_lookup_cons, ch_ch, ch_lit, lit_ch, wkT, wkH, wkB, WVL, WV_refl', Int.natCast_zero, Int.natCast_add, Int.natCast_one, Nat.sub_self, Nat.sub_zero, List.replicate_zero, List.take_zero, List.nil_append, List.append_nil, fillC_zero, Nat.reduceDiv, Nat.reduceAdd, upd_bk, bk_at, getB_zero, getB_succ, modB_zero, modB_succ, rows_lit, repB_zero, repB_succ, List.length_cons, List.length_nil, upd_upd_same, upd_apply, mk_tmp, mk_heap, mk_gen, lookupA, lookupH, List.getD_cons_zero, List.getD_cons_succ, init_two, tops, Bool.true_and, and_self, and_true, true_and, true_or, if_true, if_false, ite_true, ite_false, reduceCtorEq, reduceIte]
        · show _ - (k + 1) < _ - k
          omega
      · have h0' : ¬ (0 : Int) < k := by omega
        simp (config := { maxSteps := 1000000 }) +decide only [NoH, Old, OldL, nilQ, nilA, asgn, nz, RechL, ReY, isNew, stepO, XPost, postN, XOk, updN, updU, isEff, avalue, aeff, ASt.eval, ASt.put, ASt.set, ASt.new, Nat.reduceDiv, Nat.reduceAdd, Int.reduceToNat, absV, absC, scalar, alen, acap, conc, flats, live, blkOf, aload, rd, part?, afieldAddr, afield, aindexAddr, cellsOf, afill, places, abuild, optI, asliceV, asliceS, szOk, srcCells, aappend, acopy, aclear, astore, amakeSlice, abuildSlice, snapL, mapO, treeL, AVal.tree, AVal.flatT, isFlat, ares, isFz, afroz, afrozB, lookupA, lookupH, tops, if_true, if_false, reduceCtorEq, forall_const, ite_true, ite_false, implies_true, walkS, tabS, Try.results103, hw, hlt, h0']
        refine callK (den_l00In _ _ _) (by first | exact .inl rfl | exact .inr rfl) ?_
        simp (config := { maxSteps := 1000000 }) +decide only [NoH, Old, OldL, nilQ, nilA, asgn, nz, RechL, ReY, isNew, stepO, XPost, postN, XOk, updN, updU, isEff, avalue, aeff, ASt.eval, ASt.put, ASt.set, ASt.new, Nat.reduceDiv, Nat.reduceAdd, Int.reduceToNat, absV, absC, scalar, alen, acap, conc, flats, live, blkOf, aload, rd, part?, afieldAddr, afield, aindexAddr, cellsOf, afill, places, abuild, optI, asliceV, asliceS, szOk, srcCells, aappend, acopy, aclear, astore, amakeSlice, abuildSlice, snapL, mapO, treeL, AVal.tree, AVal.flatT, isFlat, ares, isFz, afroz, afrozB, lookupA, lookupH, tops, if_true, if_false, reduceCtorEq, forall_const, ite_true, ite_false, implies_true, walkS, tabS, Try.results103, hw, hlt, h0']
        refine ⟨fun h => ⟨⟨k + 1, hlt, ?_⟩, ?_, ?_⟩, fun h hr => h (hr k hlt).1⟩
        · intro i hi hik
          have e : i = k := by omega
          subst e
          exact ⟨h, fun h => by omega⟩
        · refine weak_mk rfl (by first | exact Nat.le_refl _ | (simp only [mk_gen]; omega)) ?_ ?_ <;> simp +decide only [w_lookup_nil, w_lookup_cons, ch_ch, ch_lit, lit_ch, wkT, wkH, wkB, WVL, WV_refl', Int.natCast_zero, Int.natCast_add, Int.natCast_one, Nat.sub_self, Nat.sub_zero, List.replicate_zero, List.take_zero, List.nil_append, List.append_nil, fillC_zero, Nat.reduceDiv, Nat.reduceAdd, upd_bk, bk_at, getB_zero, getB_succ, modB_zero, modB_succ, rows_lit, repB_zero, repB_succ, List.length_cons, List.length_nil, upd_upd_same, upd_apply, mk_tmp, mk_heap, mk_gen, lookupA, lookupH, List.getD_cons_zero, List.getD_cons_succ, init_two, tops, Bool.true_and, and_self, and_true, true_and, true_or, if_true, if_false, ite_true, ite_false, reduceCtorEq, reduceIte]
        · show _ - (k + 1) < _ - k
          omega
    · simp (config := { maxSteps := 1000000 }) +decide only [NoH, Old, OldL, nilQ, nilA, asgn, nz, RechL, ReY, isNew, stepO, XPost, postN, XOk, updN, updU, isEff, avalue, aeff, ASt.eval, ASt.put, ASt.set, ASt.new, Nat.reduceDiv, Nat.reduceAdd, Int.reduceToNat, absV, absC, scalar, alen, acap, conc, flats, live, blkOf, aload, rd, part?, afieldAddr, afield, aindexAddr, cellsOf, afill, places, abuild, optI, asliceV, asliceS, szOk, srcCells, aappend, acopy, aclear, astore, amakeSlice, abuildSlice, snapL, mapO, treeL, AVal.tree, AVal.flatT, isFlat, ares, isFz, afroz, afrozB, lookupA, lookupH, tops, if_true, if_false, reduceCtorEq, forall_const, ite_true, ite_false, implies_true, walkS, tabS, Try.results103, hlt]
      exact fun i hi => hkk i hi (by omega)
theorem den_l00Has (xs : List Int) (x : Int) : Den Try.prog 84 [ints xs, .i x] (.b (bp (x ∈ xs))) := by
  refine den_of_awp Try.func84 rfl (by kernel_rfl) (Nat.le_of_ble_eq_true rfl) (by simp only [treeL, AVal.tree, treeL_i, treeL_ints, treeL_u8, treeL_append, Bool.and_self, Bool.and_true, Bool.true_and]) (by first | rfl | simp only [treeL, AVal.tree, treeL_i, treeL_ints, treeL_u8, treeL_append, Bool.and_self, Bool.and_true, Bool.true_and]) mixed (by kernel_rfl) fun hl => ?_
  simp only [lensL, lens, lensL_i, lensL_mapC, maxI, and_true, true_and] at hl
  rw [Try.ntmps84]
  refine ex_start ?_
  simp (config := { maxSteps := 1000000 }) +decide only [NoH, Old, OldL, nilQ, nilA, asgn, nz, RechL, ReY, isNew, stepO, XPost, postN, XOk, updN, updU, isEff, avalue, aeff, ASt.eval, ASt.put, ASt.set, ASt.new, Nat.reduceDiv, Nat.reduceAdd, Int.reduceToNat, absV, absC, scalar, alen, acap, conc, flats, live, blkOf, aload, rd, part?, afieldAddr, afield, aindexAddr, cellsOf, afill, places, abuild, optI, asliceV, asliceS, szOk, srcCells, aappend, acopy, aclear, astore, amakeSlice, abuildSlice, snapL, mapO, treeL, AVal.tree, AVal.flatT, isFlat, ares, isFz, afroz, afrozB, lookupA, lookupH, tops, if_true, if_false, reduceCtorEq, forall_const, ite_true, ite_false, implies_true, walkS, tabS, Try.results84]
  refine ex_loop (fun k : {k : Nat // k ≤ xs.length ∧ ∀ i (h : i < xs.length), i < k → ¬ xs[i] = x} => mk [(0, ints xs), (1, .i x), (5, .i k)] [] 0 18) (fun k => xs.length - k) ⟨0, by simp⟩ ?_ ?_
  · refine weak_mk rfl (by first | exact Nat.le_refl _ | (simp only [mk_gen]; omega)) ?_ ?_ <;> simp +decide only [w_lookup_nil, w_lookup_cons, ch_ch, ch_lit, lit_ch, wkT, wkH, wkB, WVL, WV_refl', Int.natCast_zero, Int.natCast_add, Int.natCast_one, Nat.sub_self, Nat.sub_zero, List.replicate_zero, List.take_zero, List.nil_append, List.append_nil, fillC_zero, Nat.reduceDiv, Nat.reduceAdd, upd_bk, bk_at, getB_zero, getB_succ, modB_zero, modB_succ, rows_lit, repB_zero, repB_succ, List.length_cons, List.length_nil, upd_upd_same, upd_apply, mk_tmp, mk_heap, mk_gen, lookupA, lookupH, List.getD_cons_zero, List.getD_cons_succ, init_two, tops, Bool.true_and, and_self, and_true, true_and, true_or, if_true, if_false, ite_true, ite_false, reduceCtorEq, reduceIte]
  · rintro ⟨k, hk, hkk⟩
    by_cases hlt : k < xs.length
    · have hw : IntKind.i64.wrap ((k : Int) + 1) = ((k + 1 : Nat) : Int) := wrap64 (by omega) (by omega)
      simp (config := { maxSteps := 1000000 }) +decide only [NoH, Old, OldL, nilQ, nilA, asgn, nz, RechL, ReY, isNew, stepO, XPost, postN, XOk, updN, updU, isEff, avalue, aeff, ASt.eval, ASt.put, ASt.set, ASt.new, Nat.reduceDiv, Nat.reduceAdd, Int.reduceToNat, absV, absC, scalar, alen, acap, conc, flats, live, blkOf, aload, rd, part?, afieldAddr, afield, aindexAddr, cellsOf, afill, places, abuild, optI, asliceV, asliceS, szOk, srcCells, aappend, acopy, aclear, astore, amakeSlice, abuildSlice, snapL, mapO, treeL, AVal.tree, AVal.flatT, isFlat, ares, isFz, afroz, afrozB, lookupA, lookupH, tops, if_true, if_false, reduceCtorEq, forall_const, ite_true, ite_false, implies_true, walkS, tabS, Try.results84, hw, hlt]
      refine ⟨fun h => h ▸ List.getElem_mem hlt, fun h => ⟨⟨k + 1, hlt, ?_⟩, ?_, ?_⟩⟩
      · intro i hi hik
        by_cases e : i = k
        · subst e; exact h
        · exact hkk i hi (by omega)
      · refine weak_mk rfl (by first | exact Nat.le_refl _ | (simp only [mk_gen]; omega)) ?_ ?_ <;> simp +decide only [w_lookup_nil, w_lookup_cons, ch_ch, ch_lit, lit_ch, wkT, wkH, wkB, WVL, WV_refl', Int.natCast_zero, Int.natCast_add, Int.natCast_one, Nat.sub_self, Nat.sub_zero, List.replicate_zero, List.take_zero, List.nil_append, List.append_nil, fillC_zero, Nat.reduceDiv, Nat.reduceAdd, upd_bk, bk_at, getB_zero, getB_succ, modB_zero, modB_succ, rows_lit, repB_zero, repB_succ, List.length_cons, List.length_nil, upd_upd_same, upd_apply, mk_tmp, mk_heap, mk_gen, lookupA, lookupH, List.getD_cons_zero, List.getD_cons_succ, init_two, tops, Bool.true_and, and_self, and_true, true_and, true_or, if_true, if_false, ite_true, ite_false, reduceCtorEq, reduceIte]
      · show _ - (k + 1) < _ - k
        omega
    · simp (config := { maxSteps := 1000000 }) +decide only [NoH, Old, OldL, nilQ, nilA, asgn, nz, RechL, ReY, isNew, stepO, XPost, postN, XOk, updN, updU, isEff, avalue, aeff, ASt.eval, ASt.put, ASt.set, ASt.new, Nat.reduceDiv, Nat.reduceAdd, Int.reduceToNat, absV, absC, scalar, alen, acap, conc, flats, live, blkOf, aload, rd, part?, afieldAddr, afield, aindexAddr, cellsOf, afill, places, abuild, optI, asliceV, asliceS, szOk, srcCells, aappend, acopy, aclear, astore, amakeSlice, abuildSlice, snapL, mapO, treeL, AVal.tree, AVal.flatT, isFlat, ares, isFz, afroz, afrozB, lookupA, lookupH, tops, if_true, if_false, reduceCtorEq, forall_const, ite_true, ite_false, implies_true, walkS, tabS, Try.results84, hlt]
      intro hm
      obtain ⟨i, hi, e⟩ := List.getElem_of_mem hm
      exact hkk i hi (by omega) e
theorem den_increasing (xs : List Int) : Den Try.prog 119 [ints xs] (.b (bp (∀ i (h : i < xs.length), 0 < i → xs[i - 1] < xs[i]))) := by
  refine den_of_awp Try.func119 rfl (by kernel_rfl) (Nat.le_of_ble_eq_true rfl) (by simp only [treeL, AVal.tree, treeL_i, treeL_ints, treeL_u8, treeL_append, Bool.and_self, Bool.and_true, Bool.true_and]) (by first | rfl | simp only [treeL, AVal.tree, treeL_i, treeL_ints, treeL_u8, treeL_append, Bool.and_self, Bool.and_true, Bool.true_and]) mixed (by kernel_rfl) fun hl => ?_
  simp only [lensL, lens, lensL_i, lensL_mapC, maxI, and_true, true_and] at hl
  rw [Try.ntmps119]
  refine ex_start ?_
  simp (config := { maxSteps := 1000000 }) +decide only [NoH, Old, OldL, nilQ, nilA, asgn, nz, RechL, ReY, isNew, stepO, XPost, postN, XOk, updN, updU, isEff, avalue, aeff, ASt.eval, ASt.put, ASt.set, ASt.new, Nat.reduceDiv, Nat.reduceAdd, Int.reduceToNat, absV, absC, scalar, alen, acap, conc, flats, live, blkOf, aload, rd, part?, afieldAddr, afield, aindexAddr, cellsOf, afill, places, abuild, optI, asliceV, asliceS, szOk, srcCells, aappend, acopy, aclear, astore, amakeSlice, abuildSlice, snapL, mapO, treeL, AVal.tree, AVal.flatT, isFlat, ares, isFz, afroz, afrozB, lookupA, lookupH, tops, if_true, if_false, reduceCtorEq, forall_const, ite_true, ite_false, implies_true, walkS, tabS, Try.results119]
  refine ex_loop (fun k : {k : Nat // 1 ≤ k ∧ ∀ i (h : i < xs.length), i < k → 0 < i → xs[i - 1] < xs[i]} => mk [(0, ints xs), (3, .i k)] [] 0 20) (fun k => xs.length - k) ⟨1, by simp, by omega⟩ ?_ ?_
  · refine weak_mk rfl (by first | exact Nat.le_refl _ | (simp only [mk_gen]; omega)) ?_ ?_ <;> simp +decide only [w_lookup_nil, w_lookup_cons, ch_ch, ch_lit, lit_ch, wkT, wkH, wkB, WVL, WV_refl', Int.natCast_zero, Int.natCast_add, Int.natCast_one, Nat.sub_self, Nat.sub_zero, List.replicate_zero, List.take_zero, List.nil_append, List.append_nil, fillC_zero, Nat.reduceDiv, Nat.reduceAdd, upd_bk, bk_at, getB_zero, getB_succ, modB_zero, modB_succ, rows_lit, repB_zero, repB_succ, List.length_cons, List.length_nil, upd_upd_same, upd_apply, mk_tmp, mk_heap, mk_gen, lookupA, lookupH, List.getD_cons_zero, List.getD_cons_succ, init_two, tops, Bool.true_and, and_self, and_true, true_and, true_or, if_true, if_false, ite_true, ite_false, reduceCtorEq, reduceIte]
  · rintro ⟨k, hk, hkk⟩
    by_cases hlt : k < xs.length
    · have hw : IntKind.i64.wrap ((k : Int) + 1) = ((k + 1 : Nat) : Int) := wrap64 (by omega) (by omega)
      have hw1 : IntKind.i64.wrap ((k : Int) - 1) = ((k - 1 : Nat) : Int) := (wrap64 (by omega) (by omega)).trans (by omega)
      have hlt1 : k - 1 < xs.length := by omega
      simp (config := { maxSteps := 1000000 }) +decide only [NoH, Old, OldL, nilQ, nilA, asgn, nz, RechL, ReY, isNew, stepO, XPost, postN, XOk, updN, updU, isEff, avalue, aeff, ASt.eval, ASt.put, ASt.set, ASt.new, Nat.reduceDiv, Nat.reduceAdd, Int.reduceToNat, absV, absC, scalar, alen, acap, conc, flats, live, blkOf, aload, rd, part?, afieldAddr, afield, aindexAddr, cellsOf, afill, places, abuild, optI, asliceV, asliceS, szOk, srcCells, aappend, acopy, aclear, astore, amakeSlice, abuildSlice, snapL, mapO, treeL, AVal.tree, AVal.flatT, isFlat, ares, isFz, afroz, afrozB, lookupA, lookupH, tops, if_true, if_false, reduceCtorEq, forall_const, ite_true, ite_false, implies_true, walkS, tabS, Try.results119, hw, hlt, hw1, hlt1]
      refine ⟨fun h hr => by have := hr k hlt (by omega); omega, fun h => ⟨⟨k + 1, by omega, ?_⟩, ?_, ?_⟩⟩
      · intro i hi hik h0
        by_cases e : i = k
        · subst e; omega
        · exact hkk i hi (by omega) h0
      · refine weak_mk rfl (by first | exact Nat.le_refl _ | (simp only [mk_gen]; omega)) ?_ ?_ <;> simp +decide only [w_lookup_nil, w_lookup_cons, ch_ch, ch_lit, lit_ch, wkT, wkH, wkB, WVL, WV_refl', Int.natCast_zero, Int.natCast_add, Int.natCast_one, Nat.sub_self, Nat.sub_zero, List.replicate_zero, List.take_zero, List.nil_append, List.append_nil, fillC_zero, Nat.reduceDiv, Nat.reduceAdd, upd_bk, bk_at, getB_zero, getB_succ, modB_zero, modB_succ, rows_lit, repB_zero, repB_succ, List.length_cons, List.length_nil, upd_upd_same, upd_apply, mk_tmp, mk_heap, mk_gen, lookupA, lookupH, List.getD_cons_zero, List.getD_cons_succ, init_two, tops, Bool.true_and, and_self, and_true, true_and, true_or, if_true, if_false, ite_true, ite_false, reduceCtorEq, reduceIte]
      · show _ - (k + 1) < _ - k
        omega
    · simp (config := { maxSteps := 1000000 }) +decide only [NoH, Old, OldL, nilQ, nilA, asgn, nz, RechL, ReY, isNew, stepO, XPost, postN, XOk, updN, updU, isEff, avalue, aeff, ASt.eval, ASt.put, ASt.set, ASt.new, Nat.reduceDiv, Nat.reduceAdd, Int.reduceToNat, absV, absC, scalar, alen, acap, conc, flats, live, blkOf, aload, rd, part?, afieldAddr, afield, aindexAddr, cellsOf, afill, places, abuild, optI, asliceV, asliceS, szOk, srcCells, aappend, acopy, aclear, astore, amakeSlice, abuildSlice, snapL, mapO, treeL, AVal.tree, AVal.flatT, isFlat, ares, isFz, afroz, afrozB, lookupA, lookupH, tops, if_true, if_false, reduceCtorEq, forall_const, ite_true, ite_false, implies_true, walkS, tabS, Try.results119, hlt]
      exact fun i hi => hkk i hi (by omega)
/-- the first place at which it is so, or -1 -/
noncomputable def idx {α : Type} (p : α → Prop) (xs : List α) : Int := match xs.findIdx? (fun x => bp (p x)) with | some i => i | none => -1
theorem idx_none {α : Type} {p : α → Prop} {xs : List α} (h : ∀ i (h : i < xs.length), ¬ p xs[i]) : idx p xs = -1 := by
  have : xs.findIdx? (fun x => bp (p x)) = none := by
    rw [List.findIdx?_eq_none_iff]
    intro x hx
    obtain ⟨i, hi, rfl⟩ := List.getElem_of_mem hx
    rw [bp_false]; exact h i hi
  unfold idx; rw [this]
theorem idx_some {α : Type} {p : α → Prop} {xs : List α} {k : Nat} (hk : k < xs.length) (h : ∀ i (h : i < xs.length), i < k → ¬ p xs[i]) (hp : p xs[k]) : idx p xs = k := by
  have : xs.findIdx? (fun x => bp (p x)) = some k := by
    rw [List.findIdx?_eq_some_iff_getElem]
    exact ⟨hk, by rw [bp_true]; exact hp, fun j hj => by rw [bp_true]; exact h j (by omega) hj⟩
  unfold idx; rw [this]
theorem idx_nonneg {α : Type} {p : α → Prop} {xs : List α} : 0 ≤ idx p xs ↔ ∃ x ∈ xs, p x := by
  unfold idx
  cases h : xs.findIdx? (fun x => bp (p x)) with
  | none =>
    rw [List.findIdx?_eq_none_iff] at h
    constructor
    · intro h; simp at h
    · rintro ⟨x, hx, hp⟩
      have := h x hx
      rw [bp_false] at this
      exact (this hp).elim
  | some i =>
    rw [List.findIdx?_eq_some_iff_getElem] at h
    obtain ⟨hi, hp, _⟩ := h
    rw [bp_true] at hp
    exact ⟨fun _ => ⟨_, List.getElem_mem hi, hp⟩, fun _ => by simp⟩
theorem den_Index (xs : List Int) (x : Int) : Den Try.prog 86 [ints xs, .i x] (.i (idx (fun y => x = y) xs)) := by
  refine den_of_awp Try.func86 rfl (by kernel_rfl) (Nat.le_of_ble_eq_true rfl) (by simp only [treeL, AVal.tree, treeL_i, treeL_ints, treeL_u8, treeL_append, Bool.and_self, Bool.and_true, Bool.true_and]) (by first | rfl | simp only [treeL, AVal.tree, treeL_i, treeL_ints, treeL_u8, treeL_append, Bool.and_self, Bool.and_true, Bool.true_and]) mixed (by kernel_rfl) fun hl => ?_
  simp only [lensL, lens, lensL_i, lensL_mapC, maxI, and_true, true_and] at hl
  rw [Try.ntmps86]
  refine ex_start ?_
  simp (config := { maxSteps := 1000000 }) +decide only [NoH, Old, OldL, nilQ, nilA, asgn, nz, RechL, ReY, isNew, stepO, XPost, postN, XOk, updN, updU, isEff, avalue, aeff, ASt.eval, ASt.put, ASt.set, ASt.new, Nat.reduceDiv, Nat.reduceAdd, Int.reduceToNat, absV, absC, scalar, alen, acap, conc, flats, live, blkOf, aload, rd, part?, afieldAddr, afield, aindexAddr, cellsOf, afill, places, abuild, optI, asliceV, asliceS, szOk, srcCells, aappend, acopy, aclear, astore, amakeSlice, abuildSlice, snapL, mapO, treeL, AVal.tree, AVal.flatT, isFlat, ares, isFz, afroz, afrozB, lookupA, lookupH, tops, if_true, if_false, reduceCtorEq, forall_const, ite_true, ite_false, implies_true, walkS, tabS, Try.results86]
  refine ex_loop (fun k : {k : Nat // k ≤ xs.length ∧ ∀ i (h : i < xs.length), i < k → ¬ x = xs[i]} => mk [(0, ints xs), (1, .i x), (7, .i xs.length), (8, .i k)] [] 0 19) (fun k => xs.length - k) ⟨0, by simp⟩ ?_ ?_
  · refine weak_mk rfl (by first | exact Nat.le_refl _ | (simp only [mk_gen]; omega)) ?_ ?_ <;> simp +decide only [w_lookup_nil, w_lookup_cons, ch_ch, ch_lit, lit_ch, wkT, wkH, wkB, WVL, WV_refl', Int.natCast_zero, Int.natCast_add, Int.natCast_one, Nat.sub_self, Nat.sub_zero, List.replicate_zero, List.take_zero, List.nil_append, List.append_nil, fillC_zero, Nat.reduceDiv, Nat.reduceAdd, upd_bk, bk_at, getB_zero, getB_succ, modB_zero, modB_succ, rows_lit, repB_zero, repB_succ, List.length_cons, List.length_nil, upd_upd_same, upd_apply, mk_tmp, mk_heap, mk_gen, lookupA, lookupH, List.getD_cons_zero, List.getD_cons_succ, init_two, tops, Bool.true_and, and_self, and_true, true_and, true_or, if_true, if_false, ite_true, ite_false, reduceCtorEq, reduceIte]
  · rintro ⟨k, hk, hkk⟩
    by_cases hlt : k < xs.length
    · have hw : IntKind.i64.wrap ((k : Int) + 1) = ((k + 1 : Nat) : Int) := wrap64 (by omega) (by omega)
      simp (config := { maxSteps := 1000000 }) +decide only [NoH, Old, OldL, nilQ, nilA, asgn, nz, RechL, ReY, isNew, stepO, XPost, postN, XOk, updN, updU, isEff, avalue, aeff, ASt.eval, ASt.put, ASt.set, ASt.new, Nat.reduceDiv, Nat.reduceAdd, Int.reduceToNat, absV, absC, scalar, alen, acap, conc, flats, live, blkOf, aload, rd, part?, afieldAddr, afield, aindexAddr, cellsOf, afill, places, abuild, optI, asliceV, asliceS, szOk, srcCells, aappend, acopy, aclear, astore, amakeSlice, abuildSlice, snapL, mapO, treeL, AVal.tree, AVal.flatT, isFlat, ares, isFz, afroz, afrozB, lookupA, lookupH, tops, if_true, if_false, reduceCtorEq, forall_const, ite_true, ite_false, implies_true, walkS, tabS, Try.results86, hw, hlt]
      refine ⟨fun h => (idx_some (p := fun y => x = y) hlt hkk h).symm, fun h => ⟨⟨k + 1, hlt, ?_⟩, ?_, ?_⟩⟩
      · intro i hi hik
        by_cases e : i = k
        · subst e; exact h
        · exact hkk i hi (by omega)
      · refine weak_mk rfl (by first | exact Nat.le_refl _ | (simp only [mk_gen]; omega)) ?_ ?_ <;> simp +decide only [w_lookup_nil, w_lookup_cons, ch_ch, ch_lit, lit_ch, wkT, wkH, wkB, WVL, WV_refl', Int.natCast_zero, Int.natCast_add, Int.natCast_one, Nat.sub_self, Nat.sub_zero, List.replicate_zero, List.take_zero, List.nil_append, List.append_nil, fillC_zero, Nat.reduceDiv, Nat.reduceAdd, upd_bk, bk_at, getB_zero, getB_succ, modB_zero, modB_succ, rows_lit, repB_zero, repB_succ, List.length_cons, List.length_nil, upd_upd_same, upd_apply, mk_tmp, mk_heap, mk_gen, lookupA, lookupH, List.getD_cons_zero, List.getD_cons_succ, init_two, tops, Bool.true_and, and_self, and_true, true_and, true_or, if_true, if_false, ite_true, ite_false, reduceCtorEq, reduceIte]
      · show _ - (k + 1) < _ - k
        omega
    · simp (config := { maxSteps := 1000000 }) +decide only [NoH, Old, OldL, nilQ, nilA, asgn, nz, RechL, ReY, isNew, stepO, XPost, postN, XOk, updN, updU, isEff, avalue, aeff, ASt.eval, ASt.put, ASt.set, ASt.new, Nat.reduceDiv, Nat.reduceAdd, Int.reduceToNat, absV, absC, scalar, alen, acap, conc, flats, live, blkOf, aload, rd, part?, afieldAddr, afield, aindexAddr, cellsOf, afill, places, abuild, optI, asliceV, asliceS, szOk, srcCells, aappend, acopy, aclear, astore, amakeSlice, abuildSlice, snapL, mapO, treeL, AVal.tree, AVal.flatT, isFlat, ares, isFz, afroz, afrozB, lookupA, lookupH, tops, if_true, if_false, reduceCtorEq, forall_const, ite_true, ite_false, implies_true, walkS, tabS, Try.results86, hlt]
      exact (idx_none fun i hi => hkk i hi (by omega)).symm
theorem den_Contains (xs : List Int) (x : Int) : Den Try.prog 59 [ints xs, .i x] (.b (bp (x ∈ xs))) := by
  refine den_of_awp Try.func59 rfl (by kernel_rfl) (Nat.le_of_ble_eq_true rfl) (by simp only [treeL, AVal.tree, treeL_i, treeL_ints, treeL_u8, treeL_append, Bool.and_self, Bool.and_true, Bool.true_and]) (by first | rfl | simp only [treeL, AVal.tree, treeL_i, treeL_ints, treeL_u8, treeL_append, Bool.and_self, Bool.and_true, Bool.true_and]) mixed (by kernel_rfl) fun hl => ?_
  simp only [lensL, lens, lensL_i, lensL_mapC, maxI, and_true, true_and] at hl
  rw [Try.ntmps59]
  refine ex_start ?_
  simp (config := { maxSteps := 1000000 }) +decide only [NoH, Old, OldL, nilQ, nilA, asgn, nz, RechL, ReY, isNew, stepO, XPost, postN, XOk, updN, updU, isEff, avalue, aeff, ASt.eval, ASt.put, ASt.set, ASt.new, Nat.reduceDiv, Nat.reduceAdd, Int.reduceToNat, absV, absC, scalar, alen, acap, conc, flats, live, blkOf, aload, rd, part?, afieldAddr, afield, aindexAddr, cellsOf, afill, places, abuild, optI, asliceV, asliceS, szOk, srcCells, aappend, acopy, aclear, astore, amakeSlice, abuildSlice, snapL, mapO, treeL, AVal.tree, AVal.flatT, isFlat, ares, isFz, afroz, afrozB, lookupA, lookupH, tops, if_true, if_false, reduceCtorEq, forall_const, ite_true, ite_false, implies_true, walkS, tabS, Try.results59]
  refine callK (den_Index _ _) (by first | exact .inl rfl | exact .inr rfl) ?_
  simp (config := { maxSteps := 1000000 }) +decide only [NoH, Old, OldL, nilQ, nilA, asgn, nz, RechL, ReY, isNew, stepO, XPost, postN, XOk, updN, updU, isEff, avalue, aeff, ASt.eval, ASt.put, ASt.set, ASt.new, Nat.reduceDiv, Nat.reduceAdd, Int.reduceToNat, absV, absC, scalar, alen, acap, conc, flats, live, blkOf, aload, rd, part?, afieldAddr, afield, aindexAddr, cellsOf, afill, places, abuild, optI, asliceV, asliceS, szOk, srcCells, aappend, acopy, aclear, astore, amakeSlice, abuildSlice, snapL, mapO, treeL, AVal.tree, AVal.flatT, isFlat, ares, isFz, afroz, afrozB, lookupA, lookupH, tops, if_true, if_false, reduceCtorEq, forall_const, ite_true, ite_false, implies_true, walkS, tabS, Try.results59]
  rw [← bp_decide]
  exact bp_congr (by rw [idx_nonneg]; simp)
theorem den_IndexFunc (xs : List Int) (f : FuncId) (cs : List AVal) (p : Int → Prop) (hcs : treeL cs = true) (hp : ∀ x ∈ xs, Den Try.prog f ([.i x] ++ cs) (.b (bp (p x)))) (hs : ∀ s, snapL s cs = some cs) :
    Den Try.prog 75 [ints xs, .clo f cs] (.i (idx p xs)) := by
  refine den_of_awp Try.func75 rfl (by kernel_rfl) (Nat.le_of_ble_eq_true rfl) (by simp only [treeL, AVal.tree, treeL_i, hcs, Bool.and_self, Bool.and_true]) rfl mixed (by kernel_rfl) fun hl => ?_
  simp only [lensL, lens, lensL_i, lensL_mapC, maxI, and_true, true_and] at hl
  rw [Try.ntmps75]
  refine ex_start ?_
  simp (config := { maxSteps := 1000000 }) +decide only [NoH, Old, OldL, nilQ, nilA, asgn, nz, RechL, ReY, isNew, stepO, XPost, postN, XOk, updN, updU, isEff, avalue, aeff, ASt.eval, ASt.put, ASt.set, ASt.new, Nat.reduceDiv, Nat.reduceAdd, Int.reduceToNat, absV, absC, scalar, alen, acap, conc, flats, live, blkOf, aload, rd, part?, afieldAddr, afield, aindexAddr, cellsOf, afill, places, abuild, optI, asliceV, asliceS, szOk, srcCells, aappend, acopy, aclear, astore, amakeSlice, abuildSlice, snapL, mapO, treeL, AVal.tree, AVal.flatT, isFlat, ares, isFz, afroz, afrozB, lookupA, lookupH, tops, if_true, if_false, reduceCtorEq, forall_const, ite_true, ite_false, implies_true, walkS, tabS, Try.results75]
  refine ex_loop (fun k : {k : Nat // k ≤ xs.length ∧ ∀ i (h : i < xs.length), i < k → ¬ p xs[i]} => mk [(0, ints xs), (1, .clo f cs), (7, .i xs.length), (8, .i k)] [] 0 19) (fun k => xs.length - k) ⟨0, by simp⟩ ?_ ?_
  · refine weak_mk rfl (by first | exact Nat.le_refl _ | (simp only [mk_gen]; omega)) ?_ ?_ <;> simp +decide only [w_lookup_nil, w_lookup_cons, ch_ch, ch_lit, lit_ch, wkT, wkH, wkB, WVL, WV_refl', Int.natCast_zero, Int.natCast_add, Int.natCast_one, Nat.sub_self, Nat.sub_zero, List.replicate_zero, List.take_zero, List.nil_append, List.append_nil, fillC_zero, Nat.reduceDiv, Nat.reduceAdd, upd_bk, bk_at, getB_zero, getB_succ, modB_zero, modB_succ, rows_lit, repB_zero, repB_succ, List.length_cons, List.length_nil, upd_upd_same, upd_apply, mk_tmp, mk_heap, mk_gen, lookupA, lookupH, List.getD_cons_zero, List.getD_cons_succ, init_two, tops, Bool.true_and, and_self, and_true, true_and, true_or, if_true, if_false, ite_true, ite_false, reduceCtorEq, reduceIte]
  · rintro ⟨k, hk, hkk⟩
    by_cases hlt : k < xs.length
    · have hw : IntKind.i64.wrap ((k : Int) + 1) = ((k + 1 : Nat) : Int) := wrap64 (by omega) (by omega)
      simp (config := { maxSteps := 1000000 }) +decide only [NoH, Old, OldL, nilQ, nilA, asgn, nz, RechL, ReY, isNew, stepO, XPost, postN, XOk, updN, updU, isEff, avalue, aeff, ASt.eval, ASt.put, ASt.set, ASt.new, Nat.reduceDiv, Nat.reduceAdd, Int.reduceToNat, absV, absC, scalar, alen, acap, conc, flats, live, blkOf, aload, rd, part?, afieldAddr, afield, aindexAddr, cellsOf, afill, places, abuild, optI, asliceV, asliceS, szOk, srcCells, aappend, acopy, aclear, astore, amakeSlice, abuildSlice, snapL, mapO, treeL, AVal.tree, AVal.flatT, isFlat, ares, isFz, afroz, afrozB, lookupA, lookupH, tops, if_true, if_false, reduceCtorEq, forall_const, ite_true, ite_false, implies_true, walkS, tabS, Try.results75, hw, hlt, hs, hcs, List.cons_append]
      refine callK (hp _ (List.getElem_mem hlt)) (by first | exact .inl rfl | exact .inr rfl) ?_
      simp (config := { maxSteps := 1000000 }) +decide only [NoH, Old, OldL, nilQ, nilA, asgn, nz, RechL, ReY, isNew, stepO, XPost, postN, XOk, updN, updU, isEff, avalue, aeff, ASt.eval, ASt.put, ASt.set, ASt.new, Nat.reduceDiv, Nat.reduceAdd, Int.reduceToNat, absV, absC, scalar, alen, acap, conc, flats, live, blkOf, aload, rd, part?, afieldAddr, afield, aindexAddr, cellsOf, afill, places, abuild, optI, asliceV, asliceS, szOk, srcCells, aappend, acopy, aclear, astore, amakeSlice, abuildSlice, snapL, mapO, treeL, AVal.tree, AVal.flatT, isFlat, ares, isFz, afroz, afrozB, lookupA, lookupH, tops, if_true, if_false, reduceCtorEq, forall_const, ite_true, ite_false, implies_true, walkS, tabS, Try.results75, hw, hlt]
      refine ⟨fun h => (idx_some hlt hkk h).symm, fun h => ⟨⟨k + 1, hlt, ?_⟩, ?_, ?_⟩⟩
      · intro i hi hik
        by_cases e : i = k
        · subst e; exact h
        · exact hkk i hi (by omega)
      · refine weak_mk rfl (by first | exact Nat.le_refl _ | (simp only [mk_gen]; omega)) ?_ ?_ <;> simp +decide only [w_lookup_nil, w_lookup_cons, ch_ch, ch_lit, lit_ch, wkT, wkH, wkB, WVL, WV_refl', Int.natCast_zero, Int.natCast_add, Int.natCast_one, Nat.sub_self, Nat.sub_zero, List.replicate_zero, List.take_zero, List.nil_append, List.append_nil, fillC_zero, Nat.reduceDiv, Nat.reduceAdd, upd_bk, bk_at, getB_zero, getB_succ, modB_zero, modB_succ, rows_lit, repB_zero, repB_succ, List.length_cons, List.length_nil, upd_upd_same, upd_apply, mk_tmp, mk_heap, mk_gen, lookupA, lookupH, List.getD_cons_zero, List.getD_cons_succ, init_two, tops, Bool.true_and, and_self, and_true, true_and, true_or, if_true, if_false, ite_true, ite_false, reduceCtorEq, reduceIte]
      · show _ - (k + 1) < _ - k
        omega
    · simp (config := { maxSteps := 1000000 }) +decide only [NoH, Old, OldL, nilQ, nilA, asgn, nz, RechL, ReY, isNew, stepO, XPost, postN, XOk, updN, updU, isEff, avalue, aeff, ASt.eval, ASt.put, ASt.set, ASt.new, Nat.reduceDiv, Nat.reduceAdd, Int.reduceToNat, absV, absC, scalar, alen, acap, conc, flats, live, blkOf, aload, rd, part?, afieldAddr, afield, aindexAddr, cellsOf, afill, places, abuild, optI, asliceV, asliceS, szOk, srcCells, aappend, acopy, aclear, astore, amakeSlice, abuildSlice, snapL, mapO, treeL, AVal.tree, AVal.flatT, isFlat, ares, isFz, afroz, afrozB, lookupA, lookupH, tops, if_true, if_false, reduceCtorEq, forall_const, ite_true, ite_false, implies_true, walkS, tabS, Try.results75, hlt]
      exact (idx_none fun i hi => hkk i hi (by omega)).symm
theorem den_ContainsFunc (xs : List Int) (f : FuncId) (cs : List AVal) (p : Int → Prop) (hcs : treeL cs = true) (hp : ∀ x ∈ xs, Den Try.prog f ([.i x] ++ cs) (.b (bp (p x)))) (hs : ∀ s, snapL s cs = some cs) (hm : ∀ s, mapO (snap 5 s) cs = some cs) :
    Den Try.prog 98 [ints xs, .clo f cs] (.b (bp (∃ x ∈ xs, p x))) := by
  refine den_of_awp Try.func98 rfl (by kernel_rfl) (Nat.le_of_ble_eq_true rfl) (by simp only [treeL, AVal.tree, treeL_i, hcs, Bool.and_self, Bool.and_true]) rfl mixed (by kernel_rfl) fun hl => ?_
  simp only [lensL, lens, lensL_i, lensL_mapC, maxI, and_true, true_and] at hl
  rw [Try.ntmps98]
  refine ex_start ?_
  simp (config := { maxSteps := 1000000 }) +decide only [NoH, Old, OldL, nilQ, nilA, asgn, nz, RechL, ReY, isNew, stepO, XPost, postN, XOk, updN, updU, isEff, avalue, aeff, ASt.eval, ASt.put, ASt.set, ASt.new, Nat.reduceDiv, Nat.reduceAdd, Int.reduceToNat, absV, absC, scalar, alen, acap, conc, flats, live, blkOf, aload, rd, part?, afieldAddr, afield, aindexAddr, cellsOf, afill, places, abuild, optI, asliceV, asliceS, szOk, srcCells, aappend, acopy, aclear, astore, amakeSlice, abuildSlice, snapL, mapO, treeL, AVal.tree, AVal.flatT, isFlat, ares, isFz, afroz, afrozB, lookupA, lookupH, tops, if_true, if_false, reduceCtorEq, forall_const, ite_true, ite_false, implies_true, walkS, tabS, Try.results98, hcs, hm]
  refine callK (den_IndexFunc xs f cs p hcs hp hs) (by first | exact .inl rfl | exact .inr rfl) ?_
  simp (config := { maxSteps := 1000000 }) +decide only [NoH, Old, OldL, nilQ, nilA, asgn, nz, RechL, ReY, isNew, stepO, XPost, postN, XOk, updN, updU, isEff, avalue, aeff, ASt.eval, ASt.put, ASt.set, ASt.new, Nat.reduceDiv, Nat.reduceAdd, Int.reduceToNat, absV, absC, scalar, alen, acap, conc, flats, live, blkOf, aload, rd, part?, afieldAddr, afield, aindexAddr, cellsOf, afill, places, abuild, optI, asliceV, asliceS, szOk, srcCells, aappend, acopy, aclear, astore, amakeSlice, abuildSlice, snapL, mapO, treeL, AVal.tree, AVal.flatT, isFlat, ares, isFz, afroz, afrozB, lookupA, lookupH, tops, if_true, if_false, reduceCtorEq, forall_const, ite_true, ite_false, implies_true, walkS, tabS, Try.results98]
  rw [← bp_decide]
  exact bp_congr idx_nonneg
theorem den_allWithin1 (x lo hi : Int) : Den Try.prog 99 [.i x, .iptr [.i lo] 0, .iptr [.i hi] 0] (.b (bp (¬ (lo ≤ x ∧ x ≤ hi)))) := by
  refine den_of_awp Try.func99 rfl (by kernel_rfl) (Nat.le_of_ble_eq_true rfl) (by simp only [treeL, AVal.tree, treeL_i, treeL_ints, treeL_u8, treeL_append, Bool.and_self, Bool.and_true, Bool.true_and]) (by first | rfl | simp only [treeL, AVal.tree, treeL_i, treeL_ints, treeL_u8, treeL_append, Bool.and_self, Bool.and_true, Bool.true_and]) mixed (by kernel_rfl) fun hl => ?_
  simp only [lensL, lens, lensL_i, lensL_mapC, maxI, and_true, true_and] at hl
  rw [Try.ntmps99]
  refine ex_start ?_
  simp (config := { maxSteps := 1000000 }) +decide only [NoH, Old, OldL, nilQ, nilA, asgn, nz, RechL, ReY, isNew, stepO, XPost, postN, XOk, updN, updU, isEff, avalue, aeff, ASt.eval, ASt.put, ASt.set, ASt.new, Nat.reduceDiv, Nat.reduceAdd, Int.reduceToNat, absV, absC, scalar, alen, acap, conc, flats, live, blkOf, aload, rd, part?, afieldAddr, afield, aindexAddr, cellsOf, afill, places, abuild, optI, asliceV, asliceS, szOk, srcCells, aappend, acopy, aclear, astore, amakeSlice, abuildSlice, snapL, mapO, treeL, AVal.tree, AVal.flatT, isFlat, ares, isFz, afroz, afrozB, lookupA, lookupH, tops, if_true, if_false, reduceCtorEq, forall_const, ite_true, ite_false, implies_true, walkS, tabS, Try.results99]
  refine callK (den_within _ _ _) (by first | exact .inl rfl | exact .inr rfl) ?_
  simp (config := { maxSteps := 1000000 }) +decide only [NoH, Old, OldL, nilQ, nilA, asgn, nz, RechL, ReY, isNew, stepO, XPost, postN, XOk, updN, updU, isEff, avalue, aeff, ASt.eval, ASt.put, ASt.set, ASt.new, Nat.reduceDiv, Nat.reduceAdd, Int.reduceToNat, absV, absC, scalar, alen, acap, conc, flats, live, blkOf, aload, rd, part?, afieldAddr, afield, aindexAddr, cellsOf, afill, places, abuild, optI, asliceV, asliceS, szOk, srcCells, aappend, acopy, aclear, astore, amakeSlice, abuildSlice, snapL, mapO, treeL, AVal.tree, AVal.flatT, isFlat, ares, isFz, afroz, afrozB, lookupA, lookupH, tops, if_true, if_false, reduceCtorEq, forall_const, ite_true, ite_false, implies_true, walkS, tabS, Try.results99, not_bp]
theorem den_allWithin (xs : List Int) (lo hi : Int) : Den Try.prog 73 [ints xs, .i lo, .i hi] (.b (bp (∀ x ∈ xs, lo ≤ x ∧ x ≤ hi))) := by
  refine den_of_awp Try.func73 rfl (by kernel_rfl) (Nat.le_of_ble_eq_true rfl) (by simp only [treeL, AVal.tree, treeL_i, treeL_ints, treeL_u8, treeL_append, Bool.and_self, Bool.and_true, Bool.true_and]) (by first | rfl | simp only [treeL, AVal.tree, treeL_i, treeL_ints, treeL_u8, treeL_append, Bool.and_self, Bool.and_true, Bool.true_and]) mixed (by kernel_rfl) fun hl => ?_
  simp only [lensL, lens, lensL_i, lensL_mapC, maxI, and_true, true_and] at hl
  rw [Try.ntmps73]
  refine ex_start ?_
  simp (config := { maxSteps := 1000000 }) +decide only [NoH, Old, OldL, nilQ, nilA, asgn, nz, RechL, ReY, isNew, stepO, XPost, postN, XOk, updN, updU, isEff, avalue, aeff, ASt.eval, ASt.put, ASt.set, ASt.new, Nat.reduceDiv, Nat.reduceAdd, Int.reduceToNat, absV, absC, scalar, alen, acap, conc, flats, live, blkOf, aload, rd, part?, afieldAddr, afield, aindexAddr, cellsOf, afill, places, abuild, optI, asliceV, asliceS, szOk, srcCells, aappend, acopy, aclear, astore, amakeSlice, abuildSlice, snapL, mapO, treeL, AVal.tree, AVal.flatT, isFlat, ares, isFz, afroz, afrozB, lookupA, lookupH, tops, if_true, if_false, reduceCtorEq, forall_const, ite_true, ite_false, implies_true, walkS, tabS, Try.results73]
  refine callK (den_ContainsFunc xs _ _ (fun x => ¬ (lo ≤ x ∧ x ≤ hi)) rfl (fun x _ => den_allWithin1 x lo hi) (fun _ => rfl) (fun _ => rfl)) (by first | exact .inl rfl | exact .inr rfl) ?_
  simp (config := { maxSteps := 1000000 }) +decide only [NoH, Old, OldL, nilQ, nilA, asgn, nz, RechL, ReY, isNew, stepO, XPost, postN, XOk, updN, updU, isEff, avalue, aeff, ASt.eval, ASt.put, ASt.set, ASt.new, Nat.reduceDiv, Nat.reduceAdd, Int.reduceToNat, absV, absC, scalar, alen, acap, conc, flats, live, blkOf, aload, rd, part?, afieldAddr, afield, aindexAddr, cellsOf, afill, places, abuild, optI, asliceV, asliceS, szOk, srcCells, aappend, acopy, aclear, astore, amakeSlice, abuildSlice, snapL, mapO, treeL, AVal.tree, AVal.flatT, isFlat, ares, isFz, afroz, afrozB, lookupA, lookupH, tops, if_true, if_false, reduceCtorEq, forall_const, ite_true, ite_false, implies_true, walkS, tabS, Try.results73, not_bp]
  exact bp_congr (by simp)
def mostOf (d : Int) (xs : List Int) : Int := xs.foldl max d
theorem mostOf_snoc (d : Int) (xs : List Int) (x : Int) : mostOf d (xs ++ [x]) = max (mostOf d xs) x := by simp [mostOf]
theorem mostOf_ge (xs : List Int) : ∀ d, d ≤ mostOf d xs ∧ ∀ x ∈ xs, x ≤ mostOf d xs := by
  induction xs with
  | nil => intro d; exact ⟨by simp [mostOf], by simp⟩
  | cons y ys ih =>
    intro d
    have h := ih (max d y)
    refine ⟨by have := h.1; simp only [mostOf, List.foldl_cons] at *; omega, ?_⟩
    intro x hx
    rcases List.mem_cons.1 hx with e | e
    · subst e; have := h.1; simp only [mostOf, List.foldl_cons] at *; omega
    · exact h.2 x e
theorem mostOf_in (xs : List Int) : ∀ d, mostOf d xs = d ∨ mostOf d xs ∈ xs := by
  induction xs with
  | nil => intro d; exact .inl rfl
  | cons y ys ih =>
    intro d
    have e : mostOf d (y :: ys) = mostOf (max d y) ys := rfl
    rw [e]
    rcases ih (max d y) with h | h
    · rw [h]
      rcases Int.le_total d y with g | g
      · right; rw [show max d y = y by omega]; simp
      · left; omega
    · right; simp [h]
theorem mostOf_head {xs : List Int} {d : Int} (h : 0 < xs.length) (hd : ∀ x ∈ xs, d ≤ x) : mostOf xs[0] xs = mostOf d xs := by
  have a := mostOf_ge xs xs[0]
  have b := mostOf_ge xs d
  have c : mostOf xs[0] xs ≤ mostOf d xs := by
    rcases mostOf_in xs xs[0] with e | e
    · rw [e]; exact b.2 _ (List.getElem_mem h)
    · exact b.2 _ e
  have c' : mostOf d xs ≤ mostOf xs[0] xs := by
    rcases mostOf_in xs d with e | e
    · rw [e]; exact Int.le_trans (hd _ (List.getElem_mem h)) a.1
    · exact a.2 _ e
  omega
theorem den_l00Own (xs : List Int) (hb : xs.length ≤ 1000000000000) : Den Try.prog 68 [ints xs] (ints xs) := by
  refine den_of_awp Try.func68 rfl (by kernel_rfl) (Nat.le_of_ble_eq_true rfl) (by simp only [treeL, AVal.tree, treeL_i, treeL_ints, treeL_u8, treeL_append, Bool.and_self, Bool.and_true, Bool.true_and]) (by first | rfl | simp only [treeL, AVal.tree, treeL_i, treeL_ints, treeL_u8, treeL_append, Bool.and_self, Bool.and_true, Bool.true_and]) mixed (by kernel_rfl) fun hl => ?_
  simp only [lensL, lens, lensL_i, lensL_mapC, maxI, and_true, true_and] at hl
  rw [Try.ntmps68]
  refine ex_start ?_
  have h8 : xs.length * 8 ≤ 140737488355328 := by omega
  simp (config := { maxSteps := 1000000 }) +decide only [NoH, Old, OldL, nilQ, nilA, asgn, nz, RechL, ReY, isNew, stepO, XPost, postN, XOk, updN, updU, isEff, avalue, aeff, ASt.eval, ASt.put, ASt.set, ASt.new, Nat.reduceDiv, Nat.reduceAdd, Int.reduceToNat, absV, absC, scalar, alen, acap, conc, flats, live, blkOf, aload, rd, part?, afieldAddr, afield, aindexAddr, cellsOf, afill, places, abuild, optI, asliceV, asliceS, szOk, srcCells, aappend, acopy, aclear, astore, amakeSlice, abuildSlice, snapL, mapO, treeL, AVal.tree, AVal.flatT, isFlat, ares, isFz, afroz, afrozB, lookupA, lookupH, tops, if_true, if_false, reduceCtorEq, forall_const, ite_true, ite_false, implies_true, walkS, tabS, Try.results68, h8]
theorem denx_l00Own (xs : List Int) (hb : xs.length ≤ 1000000000000) : DenX Try.prog 68 [.v (ints xs)] [.v (ints xs)] (xints xs) := by
  refine denx_of_awp Try.func68 rfl (by kernel_rfl) (Nat.le_of_ble_eq_true rfl) (by simp +decide only [w_embA_nil, w_embA_cons, w_emb_v, w_emb_ol, w_emb_op, w_emb_agg, w_emb_tup, w_embL_nil, w_embL_cons, embL_i, List.map_cons, List.map_nil, List.nil_append, List.append_nil, List.cons_append, List.nodup_cons, List.nodup_nil, List.mem_cons, List.mem_nil_iff, List.not_mem_nil, ch_ch, ch_lit, lit_ch, Nat.reduceAdd]) mixed (by kernel_rfl) fun hl => ?_
  simp only [xlensL, xlens, lensL, lens, lensL_i, lensL_mapC, xlensL_i, maxI, and_true, true_and] at hl
  rw [Try.ntmps68]
  refine ex_start ?_
  have h8 : xs.length * 8 ≤ 140737488355328 := by omega
  simp (config := { maxSteps := 1000000 }) +decide only [NoH, Old, OldL, nilQ, nilA, asgn, nz, RechL, ReY, isNew, stepO, XPost, postN, XOk, updN, updU, isEff, avalue, aeff, ASt.eval, ASt.put, ASt.set, ASt.new, Nat.reduceDiv, Nat.reduceAdd, Int.reduceToNat, absV, absC, scalar, alen, acap, conc, flats, live, blkOf, aload, rd, part?, afieldAddr, afield, aindexAddr, cellsOf, afill, places, abuild, optI, asliceV, asliceS, szOk, srcCells, aappend, acopy, aclear, astore, amakeSlice, abuildSlice, snapL, mapO, treeL, AVal.tree, AVal.flatT, isFlat, ares, isFz, afroz, afrozB, lookupA, lookupH, tops, if_true, if_false, reduceCtorEq, forall_const, ite_true, ite_false, implies_true, walkS, tabS, Try.results68, h8]
theorem denx_Clone (xs : List Int) (hb : xs.length ≤ 1000000000000) : DenX Try.prog 32 [.v (ints xs)] [.v (ints xs)] (xints xs) := by
  refine denx_of_awp Try.func32 rfl (by kernel_rfl) (Nat.le_of_ble_eq_true rfl) (by simp +decide only [w_embA_nil, w_embA_cons, w_emb_v, w_emb_ol, w_emb_op, w_emb_agg, w_emb_tup, w_embL_nil, w_embL_cons, embL_i, List.map_cons, List.map_nil, List.nil_append, List.append_nil, List.cons_append, List.nodup_cons, List.nodup_nil, List.mem_cons, List.mem_nil_iff, List.not_mem_nil, ch_ch, ch_lit, lit_ch, Nat.reduceAdd]) mixed (by kernel_rfl) fun hl => ?_
  simp only [xlensL, xlens, lensL, lens, lensL_i, lensL_mapC, xlensL_i, maxI, and_true, true_and] at hl
  rw [Try.ntmps32]
  refine ex_start ?_
  have h8 : xs.length * 8 ≤ 140737488355328 := by omega
  by_cases h0 : xs.length = 0
  · obtain rfl := List.eq_nil_of_length_eq_zero h0
    have h9 : (mapC AVal.i ([] : List Int)).length = 0 := rfl
    simp (config := { maxSteps := 1000000 }) +decide only [NoH, Old, OldL, nilQ, nilA, asgn, nz, RechL, ReY, isNew, stepO, XPost, postN, XOk, updN, updU, isEff, avalue, aeff, ASt.eval, ASt.put, ASt.set, ASt.new, Nat.reduceDiv, Nat.reduceAdd, Int.reduceToNat, absV, absC, scalar, alen, acap, conc, flats, live, blkOf, aload, rd, part?, afieldAddr, afield, aindexAddr, cellsOf, afill, places, abuild, optI, asliceV, asliceS, szOk, srcCells, aappend, acopy, aclear, astore, amakeSlice, abuildSlice, snapL, mapO, treeL, AVal.tree, AVal.flatT, isFlat, ares, isFz, afroz, afrozB, lookupA, lookupH, tops, if_true, if_false, reduceCtorEq, forall_const, ite_true, ite_false, implies_true, walkS, tabS, Try.results32, mapC_nil]
    exact trivial
  · simp (config := { maxSteps := 1000000 }) +decide only [NoH, Old, OldL, nilQ, nilA, asgn, nz, RechL, ReY, isNew, stepO, XPost, postN, XOk, updN, updU, isEff, avalue, aeff, ASt.eval, ASt.put, ASt.set, ASt.new, Nat.reduceDiv, Nat.reduceAdd, Int.reduceToNat, absV, absC, scalar, alen, acap, conc, flats, live, blkOf, aload, rd, part?, afieldAddr, afield, aindexAddr, cellsOf, afill, places, abuild, optI, asliceV, asliceS, szOk, srcCells, aappend, acopy, aclear, astore, amakeSlice, abuildSlice, snapL, mapO, treeL, AVal.tree, AVal.flatT, isFlat, ares, isFz, afroz, afrozB, lookupA, lookupH, tops, if_true, if_false, reduceCtorEq, forall_const, ite_true, ite_false, implies_true, walkS, tabS, Try.results32, h8, h0]
theorem den_Equal (xs ys : List Int) : Den Try.prog 52 [ints xs, ints ys] (.b (decide (xs = ys))) := by
  refine den_of_awp Try.func52 rfl (by kernel_rfl) (Nat.le_of_ble_eq_true rfl) (by simp only [treeL, AVal.tree, treeL_i, treeL_ints, treeL_u8, treeL_append, Bool.and_self, Bool.and_true, Bool.true_and]) (by first | rfl | simp only [treeL, AVal.tree, treeL_i, treeL_ints, treeL_u8, treeL_append, Bool.and_self, Bool.and_true, Bool.true_and]) mixed (by kernel_rfl) fun hl => ?_
  simp only [lensL, lens, lensL_i, lensL_mapC, maxI, and_true, true_and] at hl
  rw [Try.ntmps52]
  refine ex_start ?_
  simp (config := { maxSteps := 1000000 }) +decide only [NoH, Old, OldL, nilQ, nilA, asgn, nz, RechL, ReY, isNew, stepO, XPost, postN, XOk, updN, updU, isEff, avalue, aeff, ASt.eval, ASt.put, ASt.set, ASt.new, Nat.reduceDiv, Nat.reduceAdd, Int.reduceToNat, absV, absC, scalar, alen, acap, conc, flats, live, blkOf, aload, rd, part?, afieldAddr, afield, aindexAddr, cellsOf, afill, places, abuild, optI, asliceV, asliceS, szOk, srcCells, aappend, acopy, aclear, astore, amakeSlice, abuildSlice, snapL, mapO, treeL, AVal.tree, AVal.flatT, isFlat, ares, isFz, afroz, afrozB, lookupA, lookupH, tops, if_true, if_false, reduceCtorEq, forall_const, ite_true, ite_false, implies_true, walkS, tabS, Try.results52]
  refine ⟨fun h => ?_, fun hlen => ?_⟩
  · have : ¬ xs = ys := fun e => by subst e; simp at h
    simp [this]
  · refine ex_loop (fun k : {k : Nat // k ≤ xs.length ∧ xs.take k = ys.take k} => mk [(0, ints xs), (1, ints ys), (12, .i xs.length), (13, .i k)] [] 0 26) (fun k => xs.length - k) ⟨0, by simp⟩ ?_ ?_
    · refine weak_mk rfl (by first | exact Nat.le_refl _ | (simp only [mk_gen]; omega)) ?_ ?_ <;> simp +decide only [w_lookup_nil, w_lookup_cons, ch_ch, ch_lit, lit_ch, wkT, wkH, wkB, WVL, WV_refl', Int.natCast_zero, Int.natCast_add, Int.natCast_one, Nat.sub_self, Nat.sub_zero, List.replicate_zero, List.take_zero, List.nil_append, List.append_nil, fillC_zero, Nat.reduceDiv, Nat.reduceAdd, upd_bk, bk_at, getB_zero, getB_succ, modB_zero, modB_succ, rows_lit, repB_zero, repB_succ, List.length_cons, List.length_nil, upd_upd_same, upd_apply, mk_tmp, mk_heap, mk_gen, lookupA, lookupH, List.getD_cons_zero, List.getD_cons_succ, init_two, tops, Bool.true_and, and_self, and_true, true_and, true_or, if_true, if_false, ite_true, ite_false, reduceCtorEq, reduceIte]
    · rintro ⟨k, hk, hkk⟩
      by_cases hlt : k < xs.length
      · have hlt' : k < ys.length := by omega
        have hw : IntKind.i64.wrap ((k : Int) + 1) = ((k + 1 : Nat) : Int) := wrap64 (by omega) (by omega)
        simp (config := { maxSteps := 1000000 }) +decide only [NoH, Old, OldL, nilQ, nilA, asgn, nz, RechL, ReY, isNew, stepO, XPost, postN, XOk, updN, updU, isEff, avalue, aeff, ASt.eval, ASt.put, ASt.set, ASt.new, Nat.reduceDiv, Nat.reduceAdd, Int.reduceToNat, absV, absC, scalar, alen, acap, conc, flats, live, blkOf, aload, rd, part?, afieldAddr, afield, aindexAddr, cellsOf, afill, places, abuild, optI, asliceV, asliceS, szOk, srcCells, aappend, acopy, aclear, astore, amakeSlice, abuildSlice, snapL, mapO, treeL, AVal.tree, AVal.flatT, isFlat, ares, isFz, afroz, afrozB, lookupA, lookupH, tops, if_true, if_false, reduceCtorEq, forall_const, ite_true, ite_false, implies_true, walkS, tabS, Try.results52, hw, hlt, hlt']
        refine ⟨fun h => ?_, fun h => ⟨⟨k + 1, hlt, take_succ_eq hkk hlt hlt' h⟩, ?_, ?_⟩⟩
        · have : ¬ xs = ys := fun e => by subst e; simp at h
          simp [this]
        · refine weak_mk rfl (by first | exact Nat.le_refl _ | (simp only [mk_gen]; omega)) ?_ ?_ <;> simp +decide only [w_lookup_nil, w_lookup_cons, ch_ch, ch_lit, lit_ch, wkT, wkH, wkB, WVL, WV_refl', Int.natCast_zero, Int.natCast_add, Int.natCast_one, Nat.sub_self, Nat.sub_zero, List.replicate_zero, List.take_zero, List.nil_append, List.append_nil, fillC_zero, Nat.reduceDiv, Nat.reduceAdd, upd_bk, bk_at, getB_zero, getB_succ, modB_zero, modB_succ, rows_lit, repB_zero, repB_succ, List.length_cons, List.length_nil, upd_upd_same, upd_apply, mk_tmp, mk_heap, mk_gen, lookupA, lookupH, List.getD_cons_zero, List.getD_cons_succ, init_two, tops, Bool.true_and, and_self, and_true, true_and, true_or, if_true, if_false, ite_true, ite_false, reduceCtorEq, reduceIte]
        · show _ - (k + 1) < _ - k
          omega
      · simp (config := { maxSteps := 1000000 }) +decide only [NoH, Old, OldL, nilQ, nilA, asgn, nz, RechL, ReY, isNew, stepO, XPost, postN, XOk, updN, updU, isEff, avalue, aeff, ASt.eval, ASt.put, ASt.set, ASt.new, Nat.reduceDiv, Nat.reduceAdd, Int.reduceToNat, absV, absC, scalar, alen, acap, conc, flats, live, blkOf, aload, rd, part?, afieldAddr, afield, aindexAddr, cellsOf, afill, places, abuild, optI, asliceV, asliceS, szOk, srcCells, aappend, acopy, aclear, astore, amakeSlice, abuildSlice, snapL, mapO, treeL, AVal.tree, AVal.flatT, isFlat, ares, isFz, afroz, afrozB, lookupA, lookupH, tops, if_true, if_false, reduceCtorEq, forall_const, ite_true, ite_false, implies_true, walkS, tabS, Try.results52, hlt]
        rw [List.take_of_length_le (by omega), List.take_of_length_le (by omega)] at hkk
        simp [hkk]
theorem take_snoc {α : Type} (l : List α) (x : α) : List.take (l.length + 1) (l ++ [x]) = l ++ [x] := List.take_of_length_le (by simp)
/-- the sum of what stands at some places, in the machine's numbers -/
def sumAt (ws : List Int) (l : List Int) : Int := l.foldl (fun a c => IntKind.i64.wrap (a + ws.getD c.toNat 0)) 0
theorem sumAt_snoc (ws l : List Int) (c : Int) : sumAt ws (l ++ [c]) = IntKind.i64.wrap (sumAt ws l + ws.getD c.toNat 0) := by simp [sumAt]
theorem getD_lt {ws : List Int} {k : Nat} (h : k < ws.length) : ws.getD k 0 = ws[k] := by simp [List.getD, h]
/-- a number put to its place among rising ones, once -/
def putK (xs : List Int) (x : Int) : Nat → List Int × Bool
  | 0 => ([], false)
  | k + 1 =>
    let p := putK xs x k
    let y := xs.getD k 0
    if p.2 = false ∧ x ≤ y then ((if x < y then p.1 ++ [x] else p.1) ++ [y], true) else (p.1 ++ [y], p.2)
def put (xs : List Int) (x : Int) : List Int := if (putK xs x xs.length).2 then (putK xs x xs.length).1 else (putK xs x xs.length).1 ++ [x]
section
variable {xs : List Int} {x : Int} {k : Nat}
theorem putK_in (h : k < xs.length) (h1 : (putK xs x k).2 = false) (h2 : x < xs[k]) : putK xs x (k + 1) = ((putK xs x k).1 ++ [x] ++ [xs[k]], true) := by
  have e : xs.getD k 0 = xs[k] := by simp [List.getD, h]
  simp only [putK, e]
  rw [if_pos ⟨h1, by omega⟩, if_pos h2]
theorem putK_eq (h : k < xs.length) (h1 : (putK xs x k).2 = false) (h2 : x = xs[k]) : putK xs x (k + 1) = ((putK xs x k).1 ++ [xs[k]], true) := by
  have e : xs.getD k 0 = xs[k] := by simp [List.getD, h]
  simp only [putK, e]
  rw [if_pos ⟨h1, by omega⟩, if_neg (by omega)]
theorem putK_lt (h : k < xs.length) (h2 : xs[k] < x) : putK xs x (k + 1) = ((putK xs x k).1 ++ [xs[k]], (putK xs x k).2) := by
  have e : xs.getD k 0 = xs[k] := by simp [List.getD, h]
  simp only [putK, e]
  rw [if_neg (by omega)]
theorem putK_done (h : k < xs.length) (h1 : (putK xs x k).2 = true) : putK xs x (k + 1) = ((putK xs x k).1 ++ [xs[k]], true) := by
  have e : xs.getD k 0 = xs[k] := by simp [List.getD, h]
  simp only [putK, e]
  rw [if_neg (by simp [h1]), h1]
end
theorem putK_len (xs : List Int) (x : Int) : ∀ k, (putK xs x k).1.length ≤ k + 1 ∧ ((putK xs x k).2 = false → (putK xs x k).1.length = k)
  | 0 => ⟨by simp [putK], fun _ => rfl⟩
  | k + 1 => by
    have ih := putK_len xs x k
    unfold putK
    simp only []
    split
    · rename_i h
      have := ih.2 h.1
      refine ⟨?_, by simp⟩
      split <;> simp <;> omega
    · refine ⟨by simp; omega, fun h => by have := ih.2 h; simp; omega⟩
theorem den_l00Put (xs : List Int) (x : Int) (hb : xs.length ≤ 1000000000000) : Den Try.prog 100 [ints xs, .i x] (ints (put xs x)) := by
  refine den_of_awp Try.func100 rfl (by kernel_rfl) (Nat.le_of_ble_eq_true rfl) (by simp only [treeL, AVal.tree, treeL_i, treeL_ints, treeL_u8, treeL_append, Bool.and_self, Bool.and_true, Bool.true_and]) (by first | rfl | simp only [treeL, AVal.tree, treeL_i, treeL_ints, treeL_u8, treeL_append, Bool.and_self, Bool.and_true, Bool.true_and]) mixed (by kernel_rfl) fun hl => ?_
  simp only [lensL, lens, lensL_i, lensL_mapC, maxI, and_true, true_and] at hl
  rw [Try.ntmps100]
  refine ex_start ?_
  simp (config := { maxSteps := 1000000 }) +decide only [NoH, Old, OldL, nilQ, nilA, asgn, nz, RechL, ReY, isNew, stepO, XPost, postN, XOk, updN, updU, isEff, avalue, aeff, ASt.eval, ASt.put, ASt.set, ASt.new, Nat.reduceDiv, Nat.reduceAdd, Int.reduceToNat, absV, absC, scalar, alen, acap, conc, flats, live, blkOf, aload, rd, part?, afieldAddr, afield, aindexAddr, cellsOf, afill, places, abuild, optI, asliceV, asliceS, szOk, srcCells, aappend, acopy, aclear, astore, amakeSlice, abuildSlice, snapL, mapO, treeL, AVal.tree, AVal.flatT, isFlat, ares, isFz, afroz, afrozB, lookupA, lookupH, tops, if_true, if_false, reduceCtorEq, forall_const, ite_true, ite_false, implies_true, walkS, tabS, Try.results100]
  refine ex_loop (fun p : {p : Nat × Nat // p.1 ≤ xs.length} => mk [(0, ints xs), (1, .i x), (5, .own 8 p.1.2 0 (putK xs x p.1.1).1.length), (6, .b (putK xs x p.1.1).2), (7, .i p.1.1)] [(8, ⟨p.1.2, 1, mapC AVal.i (putK xs x p.1.1).1⟩)] (p.1.2 + 1) 49) (fun p => xs.length - p.1.1) ⟨(0, 0), by simp⟩ ?_ ?_
  · refine weak_mk rfl (by first | exact Nat.le_refl _ | (simp only [mk_gen]; omega)) ?_ ?_ <;> simp +decide only [w_lookup_nil, w_lookup_cons, ch_ch, ch_lit, lit_ch, wkT, wkH, wkB, WVL, WV_refl', Int.natCast_zero, Int.natCast_add, Int.natCast_one, Nat.sub_self, Nat.sub_zero, List.replicate_zero, List.take_zero, List.nil_append, List.append_nil, fillC_zero, Nat.reduceDiv, Nat.reduceAdd, upd_bk, bk_at, getB_zero, getB_succ, modB_zero, modB_succ, rows_lit, repB_zero, repB_succ, List.length_cons, List.length_nil, upd_upd_same, upd_apply, mk_tmp, mk_heap, mk_gen, lookupA, lookupH, List.getD_cons_zero, List.getD_cons_succ, init_two, tops, Bool.true_and, and_self, and_true, true_and, true_or, if_true, if_false, ite_true, ite_false, reduceCtorEq, reduceIte, putK, mapC_nil, List.length_nil]
  · rintro ⟨⟨k, g⟩, hk⟩
    have hc := (putK_len xs x k).1
    by_cases hlt : k < xs.length
    · have hw : IntKind.i64.wrap ((k : Int) + 1) = ((k + 1 : Nat) : Int) := wrap64 (by omega) (by omega)
      have h8 : ((putK xs x k).1.length + 1) * 8 ≤ 140737488355328 := by omega
      have h9 : ((putK xs x k).1.length + 1 + 1) * 8 ≤ 140737488355328 := by omega
      have hm : xs.length - (k + 1) < xs.length - k := by omega
      cases hd : (putK xs x k).2 with
      | true =>
        have e := putK_done hlt hd
        simp (config := { maxSteps := 1000000 }) +decide only [NoH, Old, OldL, nilQ, nilA, asgn, nz, RechL, ReY, isNew, stepO, XPost, postN, XOk, updN, updU, isEff, avalue, aeff, ASt.eval, ASt.put, ASt.set, ASt.new, Nat.reduceDiv, Nat.reduceAdd, Int.reduceToNat, absV, absC, scalar, alen, acap, conc, flats, live, blkOf, aload, rd, part?, afieldAddr, afield, aindexAddr, cellsOf, afill, places, abuild, optI, asliceV, asliceS, szOk, srcCells, aappend, acopy, aclear, astore, amakeSlice, abuildSlice, snapL, mapO, treeL, AVal.tree, AVal.flatT, isFlat, ares, isFz, afroz, afrozB, lookupA, lookupH, tops, if_true, if_false, reduceCtorEq, forall_const, ite_true, ite_false, implies_true, walkS, tabS, Try.results100, hw, hlt, h8, List.replicate_succ, List.flatten_cons, List.flatten_nil, mapC_snoc]
        refine ⟨⟨(k + 1, g + 2), hlt⟩, ?_, hm⟩
        refine weak_mk rfl (by first | exact Nat.le_refl _ | (simp only [mk_gen]; omega)) ?_ ?_ <;> simp +decide only [w_lookup_nil, w_lookup_cons, ch_ch, ch_lit, lit_ch, wkT, wkH, wkB, WVL, WV_refl', Int.natCast_zero, Int.natCast_add, Int.natCast_one, Nat.sub_self, Nat.sub_zero, List.replicate_zero, List.take_zero, List.nil_append, List.append_nil, fillC_zero, Nat.reduceDiv, Nat.reduceAdd, upd_bk, bk_at, getB_zero, getB_succ, modB_zero, modB_succ, rows_lit, repB_zero, repB_succ, List.length_cons, List.length_nil, upd_upd_same, upd_apply, mk_tmp, mk_heap, mk_gen, lookupA, lookupH, List.getD_cons_zero, List.getD_cons_succ, init_two, tops, Bool.true_and, and_self, and_true, true_and, true_or, if_true, if_false, ite_true, ite_false, reduceCtorEq, reduceIte, e, List.length_append, List.length_cons, List.length_nil, Nat.zero_add]
      | false =>
        by_cases h1 : x < xs[k]
        · have e := putK_in hlt hd h1
          have h1' : x ≤ xs[k] := by omega
          simp (config := { maxSteps := 1000000 }) +decide only [NoH, Old, OldL, nilQ, nilA, asgn, nz, RechL, ReY, isNew, stepO, XPost, postN, XOk, updN, updU, isEff, avalue, aeff, ASt.eval, ASt.put, ASt.set, ASt.new, Nat.reduceDiv, Nat.reduceAdd, Int.reduceToNat, absV, absC, scalar, alen, acap, conc, flats, live, blkOf, aload, rd, part?, afieldAddr, afield, aindexAddr, cellsOf, afill, places, abuild, optI, asliceV, asliceS, szOk, srcCells, aappend, acopy, aclear, astore, amakeSlice, abuildSlice, snapL, mapO, treeL, AVal.tree, AVal.flatT, isFlat, ares, isFz, afroz, afrozB, lookupA, lookupH, tops, if_true, if_false, reduceCtorEq, forall_const, ite_true, ite_false, implies_true, walkS, tabS, Try.results100, hw, hlt, h8, h9, h1, h1', List.replicate_succ, List.flatten_cons, List.flatten_nil, mapC_snoc, List.length_append, Nat.lt_add_one, take_snoc]
          refine ⟨⟨(k + 1, g + 4), hlt⟩, ?_, hm⟩
          refine weak_mk rfl (by first | exact Nat.le_refl _ | (simp only [mk_gen]; omega)) ?_ ?_ <;> simp +decide only [w_lookup_nil, w_lookup_cons, ch_ch, ch_lit, lit_ch, wkT, wkH, wkB, WVL, WV_refl', Int.natCast_zero, Int.natCast_add, Int.natCast_one, Nat.sub_self, Nat.sub_zero, List.replicate_zero, List.take_zero, List.nil_append, List.append_nil, fillC_zero, Nat.reduceDiv, Nat.reduceAdd, upd_bk, bk_at, getB_zero, getB_succ, modB_zero, modB_succ, rows_lit, repB_zero, repB_succ, List.length_cons, List.length_nil, upd_upd_same, upd_apply, mk_tmp, mk_heap, mk_gen, lookupA, lookupH, List.getD_cons_zero, List.getD_cons_succ, init_two, tops, Bool.true_and, and_self, and_true, true_and, true_or, if_true, if_false, ite_true, ite_false, reduceCtorEq, reduceIte, e, List.length_append, List.length_cons, List.length_nil, Nat.zero_add]
        · by_cases h2 : x = xs[k]
          · have e := putK_eq hlt hd h2
            have h1' : x ≤ xs[k] := by omega
            simp (config := { maxSteps := 1000000 }) +decide only [NoH, Old, OldL, nilQ, nilA, asgn, nz, RechL, ReY, isNew, stepO, XPost, postN, XOk, updN, updU, isEff, avalue, aeff, ASt.eval, ASt.put, ASt.set, ASt.new, Nat.reduceDiv, Nat.reduceAdd, Int.reduceToNat, absV, absC, scalar, alen, acap, conc, flats, live, blkOf, aload, rd, part?, afieldAddr, afield, aindexAddr, cellsOf, afill, places, abuild, optI, asliceV, asliceS, szOk, srcCells, aappend, acopy, aclear, astore, amakeSlice, abuildSlice, snapL, mapO, treeL, AVal.tree, AVal.flatT, isFlat, ares, isFz, afroz, afrozB, lookupA, lookupH, tops, if_true, if_false, reduceCtorEq, forall_const, ite_true, ite_false, implies_true, walkS, tabS, Try.results100, hw, hlt, h8, h1, h1', List.replicate_succ, List.flatten_cons, List.flatten_nil, mapC_snoc]
            refine ⟨⟨(k + 1, g + 2), hlt⟩, ?_, hm⟩
            refine weak_mk rfl (by first | exact Nat.le_refl _ | (simp only [mk_gen]; omega)) ?_ ?_ <;> simp +decide only [w_lookup_nil, w_lookup_cons, ch_ch, ch_lit, lit_ch, wkT, wkH, wkB, WVL, WV_refl', Int.natCast_zero, Int.natCast_add, Int.natCast_one, Nat.sub_self, Nat.sub_zero, List.replicate_zero, List.take_zero, List.nil_append, List.append_nil, fillC_zero, Nat.reduceDiv, Nat.reduceAdd, upd_bk, bk_at, getB_zero, getB_succ, modB_zero, modB_succ, rows_lit, repB_zero, repB_succ, List.length_cons, List.length_nil, upd_upd_same, upd_apply, mk_tmp, mk_heap, mk_gen, lookupA, lookupH, List.getD_cons_zero, List.getD_cons_succ, init_two, tops, Bool.true_and, and_self, and_true, true_and, true_or, if_true, if_false, ite_true, ite_false, reduceCtorEq, reduceIte, e, List.length_append, List.length_cons, List.length_nil, Nat.zero_add]
          · have e := putK_lt (x := x) hlt (by omega)
            have h1' : ¬ x ≤ xs[k] := by omega
            simp (config := { maxSteps := 1000000 }) +decide only [NoH, Old, OldL, nilQ, nilA, asgn, nz, RechL, ReY, isNew, stepO, XPost, postN, XOk, updN, updU, isEff, avalue, aeff, ASt.eval, ASt.put, ASt.set, ASt.new, Nat.reduceDiv, Nat.reduceAdd, Int.reduceToNat, absV, absC, scalar, alen, acap, conc, flats, live, blkOf, aload, rd, part?, afieldAddr, afield, aindexAddr, cellsOf, afill, places, abuild, optI, asliceV, asliceS, szOk, srcCells, aappend, acopy, aclear, astore, amakeSlice, abuildSlice, snapL, mapO, treeL, AVal.tree, AVal.flatT, isFlat, ares, isFz, afroz, afrozB, lookupA, lookupH, tops, if_true, if_false, reduceCtorEq, forall_const, ite_true, ite_false, implies_true, walkS, tabS, Try.results100, hw, hlt, h8, h1', hd, List.replicate_succ, List.flatten_cons, List.flatten_nil, mapC_snoc]
            refine ⟨⟨(k + 1, g + 2), hlt⟩, ?_, hm⟩
            refine weak_mk rfl (by first | exact Nat.le_refl _ | (simp only [mk_gen]; omega)) ?_ ?_ <;> simp +decide only [w_lookup_nil, w_lookup_cons, ch_ch, ch_lit, lit_ch, wkT, wkH, wkB, WVL, WV_refl', Int.natCast_zero, Int.natCast_add, Int.natCast_one, Nat.sub_self, Nat.sub_zero, List.replicate_zero, List.take_zero, List.nil_append, List.append_nil, fillC_zero, Nat.reduceDiv, Nat.reduceAdd, upd_bk, bk_at, getB_zero, getB_succ, modB_zero, modB_succ, rows_lit, repB_zero, repB_succ, List.length_cons, List.length_nil, upd_upd_same, upd_apply, mk_tmp, mk_heap, mk_gen, lookupA, lookupH, List.getD_cons_zero, List.getD_cons_succ, init_two, tops, Bool.true_and, and_self, and_true, true_and, true_or, if_true, if_false, ite_true, ite_false, reduceCtorEq, reduceIte, e, hd, List.length_append, List.length_cons, List.length_nil, Nat.zero_add]
    · have e : k = xs.length := by omega
      subst e
      have h8 : ((putK xs x xs.length).1.length + 1) * 8 ≤ 140737488355328 := by omega
      unfold put
      cases hd : (putK xs x xs.length).2 with
      | true => simp (config := { maxSteps := 1000000 }) +decide only [NoH, Old, OldL, nilQ, nilA, asgn, nz, RechL, ReY, isNew, stepO, XPost, postN, XOk, updN, updU, isEff, avalue, aeff, ASt.eval, ASt.put, ASt.set, ASt.new, Nat.reduceDiv, Nat.reduceAdd, Int.reduceToNat, absV, absC, scalar, alen, acap, conc, flats, live, blkOf, aload, rd, part?, afieldAddr, afield, aindexAddr, cellsOf, afill, places, abuild, optI, asliceV, asliceS, szOk, srcCells, aappend, acopy, aclear, astore, amakeSlice, abuildSlice, snapL, mapO, treeL, AVal.tree, AVal.flatT, isFlat, ares, isFz, afroz, afrozB, lookupA, lookupH, tops, if_true, if_false, reduceCtorEq, forall_const, ite_true, ite_false, implies_true, walkS, tabS, Try.results100, hlt, hd]
      | false => simp (config := { maxSteps := 1000000 }) +decide only [NoH, Old, OldL, nilQ, nilA, asgn, nz, RechL, ReY, isNew, stepO, XPost, postN, XOk, updN, updU, isEff, avalue, aeff, ASt.eval, ASt.put, ASt.set, ASt.new, Nat.reduceDiv, Nat.reduceAdd, Int.reduceToNat, absV, absC, scalar, alen, acap, conc, flats, live, blkOf, aload, rd, part?, afieldAddr, afield, aindexAddr, cellsOf, afill, places, abuild, optI, asliceV, asliceS, szOk, srcCells, aappend, acopy, aclear, astore, amakeSlice, abuildSlice, snapL, mapO, treeL, AVal.tree, AVal.flatT, isFlat, ares, isFz, afroz, afrozB, lookupA, lookupH, tops, if_true, if_false, reduceCtorEq, forall_const, ite_true, ite_false, implies_true, walkS, tabS, Try.results100, hlt, hd, h8, List.replicate_succ, List.flatten_cons, List.flatten_nil, mapC_snoc, List.length_append, Nat.lt_add_one, take_snoc]
/-- the same, from the head -/
def ins (x : Int) : List Int → List Int
  | [] => [x]
  | y :: ys => if x ≤ y then (if x < y then x :: y :: ys else y :: ys) else y :: ins x ys
theorem ins_all {x : Int} : ∀ {a : List Int} (b : List Int), (∀ y ∈ a, y < x) → ins x (a ++ b) = a ++ ins x b
  | [], _, _ => rfl
  | y :: a, b, h => by
    have h1 : y < x := h y (by simp)
    have ih := ins_all (x := x) (a := a) b fun z hz => h z (by simp [hz])
    show (if x ≤ y then _ else y :: ins x (a ++ b)) = _
    rw [if_neg (by omega), ih]
    rfl
theorem ins_some {x : Int} : ∀ {a : List Int} (b : List Int), (∃ y ∈ a, x ≤ y) → ins x (a ++ b) = ins x a ++ b
  | [], _, h => by obtain ⟨y, h, _⟩ := h; simp at h
  | y :: a, b, h => by
    show (if x ≤ y then _ else _) = (if x ≤ y then _ else _) ++ b
    by_cases h1 : x ≤ y
    · rw [if_pos h1, if_pos h1]
      by_cases h2 : x < y
      · rw [if_pos h2, if_pos h2]; rfl
      · rw [if_neg h2, if_neg h2]; rfl
    · rw [if_neg h1, if_neg h1]
      obtain ⟨z, hz, hxz⟩ := h
      rcases List.mem_cons.1 hz with e | e
      · subst e; exact (h1 hxz).elim
      · show y :: ins x (a ++ b) = y :: (ins x a ++ b)
        rw [ins_some b ⟨z, e, hxz⟩]
theorem putK_spec (xs : List Int) (x : Int) : ∀ k, k ≤ xs.length → ((putK xs x k).2 = false ∧ (putK xs x k).1 = xs.take k ∧ ∀ y ∈ xs.take k, y < x) ∨ ((putK xs x k).2 = true ∧ (putK xs x k).1 = ins x (xs.take k) ∧ ∃ y ∈ xs.take k, x ≤ y)
  | 0, _ => .inl ⟨rfl, rfl, by simp⟩
  | k + 1, hk => by
    have hlt : k < xs.length := hk
    have e := List.take_succ_eq_append_getElem hlt
    rcases putK_spec xs x k (by omega) with ⟨h1, h2, h3⟩ | ⟨h1, h2, y, h3, h4⟩
    · have hi : ∀ t : List Int, ins x (xs.take k ++ t) = xs.take k ++ ins x t := fun t => ins_all t h3
      by_cases c1 : x < xs[k]
      · right
        rw [putK_in hlt h1 c1, h2, e, hi]
        refine ⟨rfl, ?_, xs[k], List.mem_append_right _ (List.mem_singleton.2 rfl), by omega⟩
        simp only [ins]
        rw [if_pos (by omega), if_pos c1, List.append_assoc]
        rfl
      · by_cases c2 : x = xs[k]
        · right
          rw [putK_eq hlt h1 c2, h2, e, hi]
          refine ⟨rfl, ?_, xs[k], List.mem_append_right _ (List.mem_singleton.2 rfl), by omega⟩
          simp only [ins]
          rw [if_pos (by omega), if_neg (by omega)]
        · left
          rw [putK_lt hlt (by omega), h2, e]
          refine ⟨h1, rfl, fun y hy => ?_⟩
          rcases List.mem_append.1 hy with hy | hy
          · exact h3 y hy
          · simp at hy; omega
    · right
      rw [putK_done hlt h1, h2, e]
      refine ⟨rfl, (ins_some _ ⟨y, h3, h4⟩).symm, y, List.mem_append_left _ h3, h4⟩
theorem put_ins (xs : List Int) (x : Int) : put xs x = ins x xs := by
  unfold put
  rcases putK_spec xs x xs.length (Nat.le_refl _) with ⟨h1, h2, h3⟩ | ⟨h1, h2, _⟩
  · rw [h1, h2, if_neg (by simp), List.take_length]
    rw [List.take_length] at h3
    have := ins_all [] h3
    rw [List.append_nil] at this
    rw [this]
    rfl
  · rw [h1, h2, if_pos rfl, List.take_length]
theorem mem_ins {x y : Int} : ∀ {xs : List Int}, y ∈ ins x xs ↔ y = x ∨ y ∈ xs
  | [] => by simp [ins]
  | z :: zs => by
    have ih := mem_ins (x := x) (y := y) (xs := zs)
    unfold ins
    split
    · split
      · simp
      · have : x = z := by omega
        subst this
        simp
    · simp only [List.mem_cons, ih]
      constructor
      · rintro (h | h | h) <;> simp [h]
      · rintro (h | h | h) <;> simp [h]
theorem sorted_ins {x : Int} : ∀ {xs : List Int}, xs.Pairwise (· < ·) → (ins x xs).Pairwise (· < ·)
  | [], _ => by simp [ins]
  | z :: zs, h => by
    have h1 := List.pairwise_cons.1 h
    unfold ins
    split
    · split
      · refine List.pairwise_cons.2 ⟨fun y hy => ?_, h⟩
        rcases List.mem_cons.1 hy with e | e
        · omega
        · have := h1.1 y e; omega
      · exact h
    · refine List.pairwise_cons.2 ⟨fun y hy => ?_, sorted_ins h1.2⟩
      rcases mem_ins.1 hy with e | e
      · omega
      · exact h1.1 y e
theorem sorted_ext : ∀ {a b : List Int}, a.Pairwise (· < ·) → b.Pairwise (· < ·) → (∀ x, x ∈ a ↔ x ∈ b) → a = b
  | [], [], _, _, _ => rfl
  | [], y :: b, _, _, h => by have := (h y).2 (by simp); simp at this
  | x :: a, [], _, _, h => by have := (h x).1 (by simp); simp at this
  | x :: a, y :: b, ha, hb, h => by
    have ha' := List.pairwise_cons.1 ha
    have hb' := List.pairwise_cons.1 hb
    have e : x = y := by
      have h1 := (h x).1 (by simp)
      have h2 := (h y).2 (by simp)
      rcases List.mem_cons.1 h1 with e | e
      · exact e
      · rcases List.mem_cons.1 h2 with e2 | e2
        · exact e2.symm
        · have := hb'.1 x e; have := ha'.1 y e2; omega
    subst e
    congr 1
    refine sorted_ext ha'.2 hb'.2 fun z => ⟨fun hz => ?_, fun hz => ?_⟩
    · rcases List.mem_cons.1 ((h z).1 (by simp [hz])) with e | e
      · have := ha'.1 z hz; omega
      · exact e
    · rcases List.mem_cons.1 ((h z).2 (by simp [hz])) with e | e
      · have := hb'.1 z hz; omega
      · exact e
/-- the numbers below a bound for which something is so -/
noncomputable def plK (q : Int → Prop) : Nat → List Int
  | 0 => []
  | k + 1 => if bp (q k) then plK q k ++ [(k : Int)] else plK q k
theorem plK_yes {q : Int → Prop} {k : Nat} (h : q k) : plK q (k + 1) = plK q k ++ [(k : Int)] := by
  show (if _ then _ else _) = _
  rw [if_pos (by rw [bp_true]; exact h)]
theorem plK_no {q : Int → Prop} {k : Nat} (h : ¬ q k) : plK q (k + 1) = plK q k := by
  show (if _ then _ else _) = _
  rw [if_neg (by rw [bp_true]; exact h)]
theorem mem_plK {q : Int → Prop} {y : Int} : ∀ {k : Nat}, y ∈ plK q k ↔ ∃ n : Nat, n < k ∧ y = n ∧ q n
  | 0 => by simp [plK]
  | k + 1 => by
    by_cases h : q k
    · rw [plK_yes h, List.mem_append, mem_plK]
      constructor
      · rintro (⟨n, h1, h2, h3⟩ | h1)
        · exact ⟨n, by omega, h2, h3⟩
        · exact ⟨k, by omega, by simpa using h1, h⟩
      · rintro ⟨n, h1, h2, h3⟩
        by_cases e : n = k
        · right; subst e; simp [h2]
        · left; exact ⟨n, by omega, h2, h3⟩
    · rw [plK_no h, mem_plK]
      constructor
      · rintro ⟨n, h1, h2, h3⟩
        exact ⟨n, by omega, h2, h3⟩
      · rintro ⟨n, h1, h2, h3⟩
        by_cases e : n = k
        · subst e; exact (h h3).elim
        · exact ⟨n, by omega, h2, h3⟩
theorem sorted_plK (q : Int → Prop) : ∀ k : Nat, (plK q k).Pairwise (· < ·)
  | 0 => by simp [plK]
  | k + 1 => by
    by_cases h : q k
    · rw [plK_yes h, List.pairwise_append]
      refine ⟨sorted_plK q k, by simp, fun a ha b hb => ?_⟩
      obtain ⟨n, h1, h2, _⟩ := mem_plK.1 ha
      simp at hb
      omega
    · rw [plK_no h]; exact sorted_plK q k
theorem plK_le (q : Int → Prop) : ∀ k : Nat, (plK q k).length ≤ k
  | 0 => by simp [plK]
  | k + 1 => by
    have := plK_le q k
    by_cases h : q k
    · rw [plK_yes h]; simp; omega
    · rw [plK_no h]; omega
theorem plK_congr {q q' : Int → Prop} {n : Nat} (h : ∀ k : Nat, k < n → (q k ↔ q' k)) : plK q n = plK q' n := by
  refine sorted_ext (sorted_plK q n) (sorted_plK q' n) fun x => ?_
  rw [mem_plK, mem_plK]
  constructor
  · rintro ⟨m, h1, h2, h3⟩; exact ⟨m, h1, h2, (h m h1).1 h3⟩
  · rintro ⟨m, h1, h2, h3⟩; exact ⟨m, h1, h2, (h m h1).2 h3⟩
theorem put_plK {q : Int → Prop} {n m : Nat} (hm : m < n) : put (plK q n) m = plK (fun y => q y ∨ y = m) n := by
  rw [put_ins]
  refine sorted_ext (sorted_ins (sorted_plK q n)) (sorted_plK _ n) fun x => ?_
  rw [mem_ins, mem_plK, mem_plK]
  constructor
  · rintro (h | ⟨k, h1, h2, h3⟩)
    · exact ⟨m, hm, h, .inr rfl⟩
    · exact ⟨k, h1, h2, .inl h3⟩
  · rintro ⟨k, h1, h2, h3 | h3⟩
    · exact .inr ⟨k, h1, h2, h3⟩
    · exact .inl (by omega)
theorem plK_none (n : Nat) : plK (fun _ => False) n = [] := by
  induction n with
  | zero => rfl
  | succ n ih => rw [plK_no (fun h => h), ih]
theorem plK_get {q : Int → Prop} {n j : Nat} (h : j < (plK q n).length) : ∃ m : Nat, (plK q n)[j] = m ∧ m < n ∧ q m := by
  obtain ⟨m, h1, h2, h3⟩ := mem_plK.1 (List.getElem_mem h)
  exact ⟨m, h2, h1, h3⟩
/-- the places of a row that are not among some -/
noncomputable def newR (hv : List Int) (row : List Int) : List Int := row.filter fun y => !bp (y ∈ hv)
theorem newR_yes {hv row : List Int} {y : Int} (h : ¬ y ∈ hv) : newR hv (row ++ [y]) = newR hv row ++ [y] := by
  have : bp (y ∈ hv) = false := by rw [bp_false]; exact h
  simp [newR, this]
theorem newR_no {hv row : List Int} {y : Int} (h : y ∈ hv) : newR hv (row ++ [y]) = newR hv row := by
  have : bp (y ∈ hv) = true := by rw [bp_true]; exact h
  simp [newR, this]
theorem newR_le (hv row : List Int) : (newR hv row).length ≤ row.length := List.length_filter_le _ _
theorem rises_low {lo hi : Int} {xs : List Int} (h : Rises lo hi xs) : ∀ (i : Nat) (hi : i < xs.length), lo + i ≤ xs[i]
  | 0, h0 => by have := (h 0 h0).1; simp; omega
  | i + 1, h1 => by
    have ih := rises_low h i (by omega)
    have := (h (i + 1) h1).2 (by omega)
    simp at this
    omega
theorem rises_len {n : Nat} {xs : List Int} (h : Rises 0 ((n : Int) - 1) xs) : xs.length ≤ n := by
  by_cases h0 : xs.length = 0
  · omega
  · have h1 := rises_low h (xs.length - 1) (by omega)
    have h2 := (h (xs.length - 1) (by omega)).1
    omega
end Go.Proofs.Ytkmhoebopfgpdaa
