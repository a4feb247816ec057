/-
  OWN WORK: the laws' own small functions: numbers that an input chooses, lengths, lists.
-/
import Derived.Test.YtkmhoebopfgpdaaSrc
namespace Go.Proofs.Ytkmhoebopfgpdaa
open Go Go.Own Go.Proofs
set_option maxHeartbeats 4000000
set_option maxRecDepth 20000
set_option linter.unusedSimpArgs false
theorem byt8 {bs : List Int} (h : ∀ x ∈ bs, 0 ≤ x ∧ x ≤ 255) (hl : ¬ 1048576 < bs.length) : Byt bs := ⟨h, by omega⟩
def r8V (bs : List Int) (k : Nat) (n : Int) : Int := if n ≤ 1 ∨ bs.length ≤ k then 0 else (bs.getD k 0).tmod n
theorem r8V_in {bs : List Int} (hb : Byt bs) (k : Nat) (n : Int) : 0 ≤ r8V bs k n ∧ (1 ≤ n → r8V bs k n < n) ∧ r8V bs k n ≤ 255 := by
  unfold r8V
  split
  · omega
  · rename_i h
    have hk : k < bs.length := by omega
    have h1 := hb.lo bs[k] (List.getElem_mem hk)
    have e : bs.getD k 0 = bs[k] := by simp [List.getD, hk]
    rw [e]
    have h2 := Int.tmod_nonneg n h1.1
    have h3 := Int.tmod_lt_of_pos bs[k] (b := n) (by omega)
    by_cases h4 : n ≤ 256
    · omega
    · rw [Int.tmod_eq_of_lt h1.1 (by omega)]
      omega
def r8W (bs : List Int) (k : Nat) (n : Int) : Int := (256 * r8V bs k 256 + r8V bs (k + 1) 256).tmod n
theorem r8W_in {bs : List Int} (hb : Byt bs) (k : Nat) (n : Int) (hn : 1 ≤ n) : 0 ≤ r8W bs k n ∧ r8W bs k n < n := by
  have h1 := r8V_in hb k 256
  have h2 := r8V_in hb (k + 1) 256
  unfold r8W
  exact ⟨Int.tmod_nonneg n (by omega), Int.tmod_lt_of_pos _ (by omega)⟩
theorem den_r8Same (xs ys : List Int) : Den Try.prog 26 [ints xs, ints ys] (.b (bp (xs = ys))) := by
  refine den_of_awp Try.func26 rfl (by kernel_rfl) (Nat.le_of_ble_eq_true rfl) (by simp only [treeL, AVal.tree, treeL_i, treeL_ints, treeL_u8, treeL_append, Bool.and_self, Bool.and_true, Bool.true_and]) (by first | rfl | simp only [treeL, AVal.tree, treeL_i, treeL_ints, treeL_u8, treeL_append, Bool.and_self, Bool.and_true, Bool.true_and]) mixed (by kernel_rfl) fun hl => ?_
  simp only [lensL, lens, lensL_i, lensL_mapC, maxI, and_true, true_and] at hl
  rw [Try.ntmps26]
  refine ex_start ?_
  by_cases hl0 : xs.length = ys.length
  case neg =>
    have h1 : ¬ (xs.length : Int) = ys.length := by omega
    have h2 : ¬ xs = ys := fun h => hl0 (by rw [h])
    simp (config := { maxSteps := 1000000 }) +decide only [NoH, Old, OldL, nilQ, nilA, asgn, nz, RechL, ReY, isNew, stepO, XPost, postN, XOk, updN, updU, isEff, avalue, aeff, ASt.eval, ASt.put, ASt.set, ASt.new, Nat.reduceDiv, Nat.reduceAdd, Int.reduceToNat, absV, absC, scalar, alen, acap, conc, flats, live, blkOf, aload, rd, part?, afieldAddr, afield, aindexAddr, cellsOf, afill, places, abuild, optI, asliceV, asliceS, szOk, srcCells, aappend, acopy, aclear, astore, amakeSlice, abuildSlice, snapL, mapO, treeL, AVal.tree, AVal.flatT, isFlat, ares, isFz, afroz, afrozB, lookupA, lookupH, tops, if_true, if_false, reduceCtorEq, forall_const, ite_true, ite_false, implies_true, walkS, tabS, Try.results26, h1, hl0, eq_false h2]
  have h1 : (xs.length : Int) = ys.length := by omega
  simp (config := { maxSteps := 1000000 }) +decide only [NoH, Old, OldL, nilQ, nilA, asgn, nz, RechL, ReY, isNew, stepO, XPost, postN, XOk, updN, updU, isEff, avalue, aeff, ASt.eval, ASt.put, ASt.set, ASt.new, Nat.reduceDiv, Nat.reduceAdd, Int.reduceToNat, absV, absC, scalar, alen, acap, conc, flats, live, blkOf, aload, rd, part?, afieldAddr, afield, aindexAddr, cellsOf, afill, places, abuild, optI, asliceV, asliceS, szOk, srcCells, aappend, acopy, aclear, astore, amakeSlice, abuildSlice, snapL, mapO, treeL, AVal.tree, AVal.flatT, isFlat, ares, isFz, afroz, afrozB, lookupA, lookupH, tops, if_true, if_false, reduceCtorEq, forall_const, ite_true, ite_false, implies_true, walkS, tabS, Try.results26, eq_true h1, hl0]
  refine ex_loop (fun k : {k : Nat // k ≤ xs.length ∧ ∀ (i : Nat) (h1 : i < xs.length) (h2 : i < ys.length), i < k → xs[i] = ys[i]} => mk [(0, ints xs), (1, ints ys), (5, .i k)] [] 0 26) (fun k => xs.length - k) ⟨0, by simp⟩ ?_ ?_
  · refine weak_mk rfl (by first | exact Nat.le_refl _ | (simp only [mk_gen]; omega)) ?_ ?_ <;> simp +decide only [w_lookup_nil, w_lookup_cons, ch_ch, ch_lit, lit_ch, wkT, wkH, wkB, WVL, WV_refl', Int.natCast_zero, Int.natCast_add, Int.natCast_one, Nat.sub_self, Nat.sub_zero, List.replicate_zero, List.take_zero, List.nil_append, List.append_nil, fillC_zero, Nat.reduceDiv, Nat.reduceAdd, upd_bk, bk_at, getB_zero, getB_succ, modB_zero, modB_succ, rows_lit, repB_zero, repB_succ, List.length_cons, List.length_nil, upd_upd_same, upd_apply, mk_tmp, mk_heap, mk_gen, lookupA, lookupH, List.getD_cons_zero, List.getD_cons_succ, init_two, tops, Bool.true_and, and_self, and_true, true_and, true_or, if_true, if_false, ite_true, ite_false, reduceCtorEq, reduceIte]
  rintro ⟨k, hk, hn⟩
  have hk' : k ≤ xs.length := hk
  by_cases hlt : k < xs.length
  case neg =>
    have e : xs = ys := List.ext_getElem hl0 fun i h1 h2 => hn i h1 h2 (by show i < k; omega)
    have hlt2 : ¬ k < ys.length := by omega
    simp (config := { maxSteps := 1000000 }) +decide only [NoH, Old, OldL, nilQ, nilA, asgn, nz, RechL, ReY, isNew, stepO, XPost, postN, XOk, updN, updU, isEff, avalue, aeff, ASt.eval, ASt.put, ASt.set, ASt.new, Nat.reduceDiv, Nat.reduceAdd, Int.reduceToNat, absV, absC, scalar, alen, acap, conc, flats, live, blkOf, aload, rd, part?, afieldAddr, afield, aindexAddr, cellsOf, afill, places, abuild, optI, asliceV, asliceS, szOk, srcCells, aappend, acopy, aclear, astore, amakeSlice, abuildSlice, snapL, mapO, treeL, AVal.tree, AVal.flatT, isFlat, ares, isFz, afroz, afrozB, lookupA, lookupH, tops, if_true, if_false, reduceCtorEq, forall_const, ite_true, ite_false, implies_true, walkS, tabS, Try.results26, hlt2, hl0, eq_true e]
  have hlt2 : k < ys.length := by omega
  have hw : IntKind.i64.wrap ((k : Int) + 1) = ((k + 1 : Nat) : Int) := wrap64 (by omega) (by omega)
  by_cases hq : xs[k] = ys[k]
  · simp (config := { maxSteps := 1000000 }) +decide only [NoH, Old, OldL, nilQ, nilA, asgn, nz, RechL, ReY, isNew, stepO, XPost, postN, XOk, updN, updU, isEff, avalue, aeff, ASt.eval, ASt.put, ASt.set, ASt.new, Nat.reduceDiv, Nat.reduceAdd, Int.reduceToNat, absV, absC, scalar, alen, acap, conc, flats, live, blkOf, aload, rd, part?, afieldAddr, afield, aindexAddr, cellsOf, afill, places, abuild, optI, asliceV, asliceS, szOk, srcCells, aappend, acopy, aclear, astore, amakeSlice, abuildSlice, snapL, mapO, treeL, AVal.tree, AVal.flatT, isFlat, ares, isFz, afroz, afrozB, lookupA, lookupH, tops, if_true, if_false, reduceCtorEq, forall_const, ite_true, ite_false, implies_true, walkS, tabS, Try.results26, hlt, hlt2, hw, eq_true hq]
    refine ⟨⟨k + 1, hlt, fun i h1 h2 h3 => ?_⟩, ?_, by show _ - (k + 1) < _ - k; omega⟩
    · by_cases e : i = k
      · subst e; exact hq
      · exact hn i h1 h2 (by show i < k; omega)
    · refine weak_mk rfl (by first | exact Nat.le_refl _ | (simp only [mk_gen]; omega)) ?_ ?_ <;> simp +decide only [w_lookup_nil, w_lookup_cons, ch_ch, ch_lit, lit_ch, wkT, wkH, wkB, WVL, WV_refl', Int.natCast_zero, Int.natCast_add, Int.natCast_one, Nat.sub_self, Nat.sub_zero, List.replicate_zero, List.take_zero, List.nil_append, List.append_nil, fillC_zero, Nat.reduceDiv, Nat.reduceAdd, upd_bk, bk_at, getB_zero, getB_succ, modB_zero, modB_succ, rows_lit, repB_zero, repB_succ, List.length_cons, List.length_nil, upd_upd_same, upd_apply, mk_tmp, mk_heap, mk_gen, lookupA, lookupH, List.getD_cons_zero, List.getD_cons_succ, init_two, tops, Bool.true_and, and_self, and_true, true_and, true_or, if_true, if_false, ite_true, ite_false, reduceCtorEq, reduceIte]
  · have e : ¬ xs = ys := fun h => hq (by simp only [h])
    simp (config := { maxSteps := 1000000 }) +decide only [NoH, Old, OldL, nilQ, nilA, asgn, nz, RechL, ReY, isNew, stepO, XPost, postN, XOk, updN, updU, isEff, avalue, aeff, ASt.eval, ASt.put, ASt.set, ASt.new, Nat.reduceDiv, Nat.reduceAdd, Int.reduceToNat, absV, absC, scalar, alen, acap, conc, flats, live, blkOf, aload, rd, part?, afieldAddr, afield, aindexAddr, cellsOf, afill, places, abuild, optI, asliceV, asliceS, szOk, srcCells, aappend, acopy, aclear, astore, amakeSlice, abuildSlice, snapL, mapO, treeL, AVal.tree, AVal.flatT, isFlat, ares, isFz, afroz, afrozB, lookupA, lookupH, tops, if_true, if_false, reduceCtorEq, forall_const, ite_true, ite_false, implies_true, walkS, tabS, Try.results26, hlt, hlt2, hw, eq_false hq, eq_false e]
end Go.Proofs.Ytkmhoebopfgpdaa
