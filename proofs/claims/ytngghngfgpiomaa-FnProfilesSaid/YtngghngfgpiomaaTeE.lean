/-
  OWN WORK: profiles: what a terrain has at the points between two points.
-/
import Derived.Test.YtngghngfgpiomaaTeD
namespace Go.Proofs.Ytngghngfgpiomaa
open Go Go.Own Go.Proofs
set_option maxHeartbeats 4000000
set_option maxRecDepth 20000
set_option linter.unusedSimpArgs false
def PfA (s w h : Int) (hs cl : List Int) (ax ay bx by' : Int) : Prop := OkTer s w h hs cl ∧ OkPt ax ay ∧ OkPt bx by'
def PfB (s w h ax ay bx by' N : Int) : Prop := (2 ≤ N ∧ N ≤ 65) ∧ InTer s w h ax ay ∧ InTer s w h bx by'
open Classical in
noncomputable def pfC (s w h : Int) (hs cl : List Int) (ax ay bx by' N : Int) : Int := if PfA s w h hs cl ax ay bx by' then (if PfB s w h ax ay bx by' N then 0 else 2) else 1
noncomputable def pfK (v : Int → Int → Int) (ax ay bx by' : Int) (n : Nat) (k : Nat) : List Int := (List.range k).map fun i => v (plX ax ay bx by' n i) (plY ax ay bx by' n i)
open Classical in
noncomputable def pfL (v : Int → Int → Int) (s w h : Int) (hs cl : List Int) (ax ay bx by' N : Int) : List Int := if pfC s w h hs cl ax ay bx by' N = 0 then pfK v ax ay bx by' N.toNat N.toNat else []
theorem pfK_zero (v : Int → Int → Int) (ax ay bx by' : Int) (n : Nat) : pfK v ax ay bx by' n 0 = [] := rfl
theorem pfK_succ (v : Int → Int → Int) (ax ay bx by' : Int) (n k : Nat) : pfK v ax ay bx by' n k ++ [v (plX ax ay bx by' n k) (plY ax ay bx by' n k)] = pfK v ax ay bx by' n (k + 1) := by
  unfold pfK
  rw [List.range_succ, List.map_append]
  rfl
theorem pfK_len (v : Int → Int → Int) (ax ay bx by' : Int) (n k : Nat) : (pfK v ax ay bx by' n k).length = k := by unfold pfK; simp
section
variable {v : Int → Int → Int} {s w h : Int} {hs cl : List Int} {ax ay bx by' N : Int}
theorem pf_A (h1 : ¬ PfA s w h hs cl ax ay bx by') : pfC s w h hs cl ax ay bx by' N = 1 ∧ pfL v s w h hs cl ax ay bx by' N = [] := by
  have e : pfC s w h hs cl ax ay bx by' N = 1 := by unfold pfC; rw [if_neg h1]
  exact ⟨e, by unfold pfL; rw [if_neg (by omega)]⟩
theorem pf_B (h1 : PfA s w h hs cl ax ay bx by') (h2 : ¬ PfB s w h ax ay bx by' N) : pfC s w h hs cl ax ay bx by' N = 2 ∧ pfL v s w h hs cl ax ay bx by' N = [] := by
  have e : pfC s w h hs cl ax ay bx by' N = 2 := by unfold pfC; rw [if_pos h1, if_neg h2]
  exact ⟨e, by unfold pfL; rw [if_neg (by omega)]⟩
theorem pf_ok (h1 : PfA s w h hs cl ax ay bx by') (h2 : PfB s w h ax ay bx by' N) : pfC s w h hs cl ax ay bx by' N = 0 ∧ pfL v s w h hs cl ax ay bx by' N = pfK v ax ay bx by' N.toNat N.toNat := by
  have e : pfC s w h hs cl ax ay bx by' N = 0 := by unfold pfC; rw [if_pos h1, if_pos h2]
  exact ⟨e, by unfold pfL; rw [if_pos e]⟩
/-- the points between are in the terrain -/
theorem pl_in {n k : Nat} (hn : 2 ≤ n) (hk : k < n) (ha : InTer s w h ax ay) (hb : InTer s w h bx by') : InTer s w h (plX ax ay bx by' n k) (plY ax ay bx by' n k) := by
  obtain ⟨a1, a2⟩ := ha
  obtain ⟨b1, b2⟩ := hb
  unfold plX plY
  by_cases hB : Befo ax ay bx by'
  · rw [if_pos hB, if_pos hB]
    exact ⟨plC_in hn hk _ a1 b1, plC_in hn hk _ a2 b2⟩
  · rw [if_neg hB, if_neg hB]
    exact ⟨plC_in hn (by omega) _ b1 a1, plC_in hn (by omega) _ b2 a2⟩
end
theorem den_profileAt (s w h : Int) (hs cl : List Int) (ax ay bx by' N : Int) (f : FuncId) (v : Int → Int → Int) (hv : OkTer s w h hs cl → ∀ x y, InTer s w h x y → Den Try.prog f [terV s w h hs cl, .agg [.i x, .i y]] (.i (v x y))) :
    Den Try.prog 14 [terV s w h hs cl, .agg [.i ax, .i ay], .agg [.i bx, .i by'], .i N, .bnd f [terV s w h hs cl]] (.tup [ints (pfL v s w h hs cl ax ay bx by' N), .i (pfC s w h hs cl ax ay bx by' N)]) := by
  refine den_of_awpG (ghs [] [5, 6, 7, 58]) Try.func14 rfl (by kernel_rfl) (Nat.le_of_ble_eq_true rfl) (by simp only [treeL, AVal.tree, treeL_i, treeL_ints, treeL_u8, treeL_append, Bool.and_self, Bool.and_true, Bool.true_and]) (by first | rfl | simp only [treeL, AVal.tree, treeL_i, treeL_ints, treeL_u8, treeL_append, Bool.and_self, Bool.and_true, Bool.true_and]) mixed (by kernel_rfl) fun hl => ?_
  simp only [lensL, lens, lensL_i, lensL_mapC, maxI, and_true, true_and] at hl
  rw [Try.ntmps14]
  refine ex_start ?_
  simp (config := { maxSteps := 1000000 }) +decide only [NoH, Old, OldL, nilQ, nilA, RechL, ReY, isNew, stepO, XPost, postN, XOk, updN, updU, isEff, avalue, aeff, ASt.eval, ASt.put, ASt.set, ASt.new, Nat.reduceDiv, Nat.reduceAdd, Int.reduceToNat, absV, absC, scalar, alen, acap, conc, flats, live, blkOf, aload, rd, part?, afieldAddr, afield, aindexAddr, cellsOf, afill, places, abuild, optI, asliceV, asliceS, szOk, srcCells, aappend, astore, amakeSlice, abuildSlice, snapL, mapO, treeL, AVal.tree, AVal.flatT, isFlat, ares, isFz, afroz, afrozB, lookupA, lookupH, tops, if_true, if_false, reduceCtorEq, forall_const, ite_true, ite_false, implies_true, walkS, tabS, Try.results14]
  refine callK (den_implValidTerrain s w h hs cl) (by first | exact .inl rfl | exact .inr rfl) ?_
  by_cases h1 : OkTer s w h hs cl
  case neg =>
    obtain ⟨e1, e2⟩ := @pf_A v s w h hs cl ax ay bx by' N (fun h => h1 h.1)
    rw [e1, e2]
    simp (config := { maxSteps := 1000000 }) +decide only [NoH, Old, OldL, nilQ, nilA, RechL, ReY, isNew, stepO, XPost, postN, XOk, updN, updU, isEff, avalue, aeff, ASt.eval, ASt.put, ASt.set, ASt.new, Nat.reduceDiv, Nat.reduceAdd, Int.reduceToNat, absV, absC, scalar, alen, acap, conc, flats, live, blkOf, aload, rd, part?, afieldAddr, afield, aindexAddr, cellsOf, afill, places, abuild, optI, asliceV, asliceS, szOk, srcCells, aappend, astore, amakeSlice, abuildSlice, snapL, mapO, treeL, AVal.tree, AVal.flatT, isFlat, ares, isFz, afroz, afrozB, lookupA, lookupH, tops, if_true, if_false, reduceCtorEq, forall_const, ite_true, ite_false, implies_true, walkS, tabS, Try.results14, eq_false h1, mapC_nil]
  simp (config := { maxSteps := 1000000 }) +decide only [NoH, Old, OldL, nilQ, nilA, RechL, ReY, isNew, stepO, XPost, postN, XOk, updN, updU, isEff, avalue, aeff, ASt.eval, ASt.put, ASt.set, ASt.new, Nat.reduceDiv, Nat.reduceAdd, Int.reduceToNat, absV, absC, scalar, alen, acap, conc, flats, live, blkOf, aload, rd, part?, afieldAddr, afield, aindexAddr, cellsOf, afill, places, abuild, optI, asliceV, asliceS, szOk, srcCells, aappend, astore, amakeSlice, abuildSlice, snapL, mapO, treeL, AVal.tree, AVal.flatT, isFlat, ares, isFz, afroz, afrozB, lookupA, lookupH, tops, if_true, if_false, reduceCtorEq, forall_const, ite_true, ite_false, implies_true, walkS, tabS, Try.results14, eq_true h1]
  refine callK (den_implValidPoint ax ay) (by first | exact .inl rfl | exact .inr rfl) ?_
  by_cases h2 : OkPt ax ay
  case neg =>
    obtain ⟨e1, e2⟩ := @pf_A v s w h hs cl ax ay bx by' N (fun h => h2 h.2.1)
    rw [e1, e2]
    simp (config := { maxSteps := 1000000 }) +decide only [NoH, Old, OldL, nilQ, nilA, RechL, ReY, isNew, stepO, XPost, postN, XOk, updN, updU, isEff, avalue, aeff, ASt.eval, ASt.put, ASt.set, ASt.new, Nat.reduceDiv, Nat.reduceAdd, Int.reduceToNat, absV, absC, scalar, alen, acap, conc, flats, live, blkOf, aload, rd, part?, afieldAddr, afield, aindexAddr, cellsOf, afill, places, abuild, optI, asliceV, asliceS, szOk, srcCells, aappend, astore, amakeSlice, abuildSlice, snapL, mapO, treeL, AVal.tree, AVal.flatT, isFlat, ares, isFz, afroz, afrozB, lookupA, lookupH, tops, if_true, if_false, reduceCtorEq, forall_const, ite_true, ite_false, implies_true, walkS, tabS, Try.results14, eq_false h2, mapC_nil]
  simp (config := { maxSteps := 1000000 }) +decide only [NoH, Old, OldL, nilQ, nilA, RechL, ReY, isNew, stepO, XPost, postN, XOk, updN, updU, isEff, avalue, aeff, ASt.eval, ASt.put, ASt.set, ASt.new, Nat.reduceDiv, Nat.reduceAdd, Int.reduceToNat, absV, absC, scalar, alen, acap, conc, flats, live, blkOf, aload, rd, part?, afieldAddr, afield, aindexAddr, cellsOf, afill, places, abuild, optI, asliceV, asliceS, szOk, srcCells, aappend, astore, amakeSlice, abuildSlice, snapL, mapO, treeL, AVal.tree, AVal.flatT, isFlat, ares, isFz, afroz, afrozB, lookupA, lookupH, tops, if_true, if_false, reduceCtorEq, forall_const, ite_true, ite_false, implies_true, walkS, tabS, Try.results14, eq_true h2]
  refine callK (den_implValidPoint bx by') (by first | exact .inl rfl | exact .inr rfl) ?_
  by_cases h3 : OkPt bx by'
  case neg =>
    obtain ⟨e1, e2⟩ := @pf_A v s w h hs cl ax ay bx by' N (fun h => h3 h.2.2)
    rw [e1, e2]
    simp (config := { maxSteps := 1000000 }) +decide only [NoH, Old, OldL, nilQ, nilA, RechL, ReY, isNew, stepO, XPost, postN, XOk, updN, updU, isEff, avalue, aeff, ASt.eval, ASt.put, ASt.set, ASt.new, Nat.reduceDiv, Nat.reduceAdd, Int.reduceToNat, absV, absC, scalar, alen, acap, conc, flats, live, blkOf, aload, rd, part?, afieldAddr, afield, aindexAddr, cellsOf, afill, places, abuild, optI, asliceV, asliceS, szOk, srcCells, aappend, astore, amakeSlice, abuildSlice, snapL, mapO, treeL, AVal.tree, AVal.flatT, isFlat, ares, isFz, afroz, afrozB, lookupA, lookupH, tops, if_true, if_false, reduceCtorEq, forall_const, ite_true, ite_false, implies_true, walkS, tabS, Try.results14, eq_false h3, mapC_nil]
  have hA : PfA s w h hs cl ax ay bx by' := ⟨h1, h2, h3⟩
  simp (config := { maxSteps := 1000000 }) +decide only [NoH, Old, OldL, nilQ, nilA, RechL, ReY, isNew, stepO, XPost, postN, XOk, updN, updU, isEff, avalue, aeff, ASt.eval, ASt.put, ASt.set, ASt.new, Nat.reduceDiv, Nat.reduceAdd, Int.reduceToNat, absV, absC, scalar, alen, acap, conc, flats, live, blkOf, aload, rd, part?, afieldAddr, afield, aindexAddr, cellsOf, afill, places, abuild, optI, asliceV, asliceS, szOk, srcCells, aappend, astore, amakeSlice, abuildSlice, snapL, mapO, treeL, AVal.tree, AVal.flatT, isFlat, ares, isFz, afroz, afrozB, lookupA, lookupH, tops, if_true, if_false, reduceCtorEq, forall_const, ite_true, ite_false, implies_true, walkS, tabS, Try.results14, eq_true h3]
  refine callK (den_within N 2 65) (by first | exact .inl rfl | exact .inr rfl) ?_
  by_cases h4 : 2 ≤ N ∧ N ≤ 65
  case neg =>
    obtain ⟨e1, e2⟩ := @pf_B v s w h hs cl ax ay bx by' N hA (fun h => h4 h.1)
    rw [e1, e2]
    simp (config := { maxSteps := 1000000 }) +decide only [NoH, Old, OldL, nilQ, nilA, RechL, ReY, isNew, stepO, XPost, postN, XOk, updN, updU, isEff, avalue, aeff, ASt.eval, ASt.put, ASt.set, ASt.new, Nat.reduceDiv, Nat.reduceAdd, Int.reduceToNat, absV, absC, scalar, alen, acap, conc, flats, live, blkOf, aload, rd, part?, afieldAddr, afield, aindexAddr, cellsOf, afill, places, abuild, optI, asliceV, asliceS, szOk, srcCells, aappend, astore, amakeSlice, abuildSlice, snapL, mapO, treeL, AVal.tree, AVal.flatT, isFlat, ares, isFz, afroz, afrozB, lookupA, lookupH, tops, if_true, if_false, reduceCtorEq, forall_const, ite_true, ite_false, implies_true, walkS, tabS, Try.results14, eq_false h4, mapC_nil]
  simp (config := { maxSteps := 1000000 }) +decide only [NoH, Old, OldL, nilQ, nilA, RechL, ReY, isNew, stepO, XPost, postN, XOk, updN, updU, isEff, avalue, aeff, ASt.eval, ASt.put, ASt.set, ASt.new, Nat.reduceDiv, Nat.reduceAdd, Int.reduceToNat, absV, absC, scalar, alen, acap, conc, flats, live, blkOf, aload, rd, part?, afieldAddr, afield, aindexAddr, cellsOf, afill, places, abuild, optI, asliceV, asliceS, szOk, srcCells, aappend, astore, amakeSlice, abuildSlice, snapL, mapO, treeL, AVal.tree, AVal.flatT, isFlat, ares, isFz, afroz, afrozB, lookupA, lookupH, tops, if_true, if_false, reduceCtorEq, forall_const, ite_true, ite_false, implies_true, walkS, tabS, Try.results14, eq_true h4]
  refine callK (den_terHas s w h hs cl ax ay h1.1) (by first | exact .inl rfl | exact .inr rfl) ?_
  by_cases h5 : InTer s w h ax ay
  case neg =>
    obtain ⟨e1, e2⟩ := @pf_B v s w h hs cl ax ay bx by' N hA (fun h => h5 h.2.1)
    rw [e1, e2]
    simp (config := { maxSteps := 1000000 }) +decide only [NoH, Old, OldL, nilQ, nilA, RechL, ReY, isNew, stepO, XPost, postN, XOk, updN, updU, isEff, avalue, aeff, ASt.eval, ASt.put, ASt.set, ASt.new, Nat.reduceDiv, Nat.reduceAdd, Int.reduceToNat, absV, absC, scalar, alen, acap, conc, flats, live, blkOf, aload, rd, part?, afieldAddr, afield, aindexAddr, cellsOf, afill, places, abuild, optI, asliceV, asliceS, szOk, srcCells, aappend, astore, amakeSlice, abuildSlice, snapL, mapO, treeL, AVal.tree, AVal.flatT, isFlat, ares, isFz, afroz, afrozB, lookupA, lookupH, tops, if_true, if_false, reduceCtorEq, forall_const, ite_true, ite_false, implies_true, walkS, tabS, Try.results14, eq_false h5, mapC_nil]
  simp (config := { maxSteps := 1000000 }) +decide only [NoH, Old, OldL, nilQ, nilA, RechL, ReY, isNew, stepO, XPost, postN, XOk, updN, updU, isEff, avalue, aeff, ASt.eval, ASt.put, ASt.set, ASt.new, Nat.reduceDiv, Nat.reduceAdd, Int.reduceToNat, absV, absC, scalar, alen, acap, conc, flats, live, blkOf, aload, rd, part?, afieldAddr, afield, aindexAddr, cellsOf, afill, places, abuild, optI, asliceV, asliceS, szOk, srcCells, aappend, astore, amakeSlice, abuildSlice, snapL, mapO, treeL, AVal.tree, AVal.flatT, isFlat, ares, isFz, afroz, afrozB, lookupA, lookupH, tops, if_true, if_false, reduceCtorEq, forall_const, ite_true, ite_false, implies_true, walkS, tabS, Try.results14, eq_true h5]
  refine callK (den_terHas s w h hs cl bx by' h1.1) (by first | exact .inl rfl | exact .inr rfl) ?_
  by_cases h6 : InTer s w h bx by'
  case neg =>
    obtain ⟨e1, e2⟩ := @pf_B v s w h hs cl ax ay bx by' N hA (fun h => h6 h.2.2)
    rw [e1, e2]
    simp (config := { maxSteps := 1000000 }) +decide only [NoH, Old, OldL, nilQ, nilA, RechL, ReY, isNew, stepO, XPost, postN, XOk, updN, updU, isEff, avalue, aeff, ASt.eval, ASt.put, ASt.set, ASt.new, Nat.reduceDiv, Nat.reduceAdd, Int.reduceToNat, absV, absC, scalar, alen, acap, conc, flats, live, blkOf, aload, rd, part?, afieldAddr, afield, aindexAddr, cellsOf, afill, places, abuild, optI, asliceV, asliceS, szOk, srcCells, aappend, astore, amakeSlice, abuildSlice, snapL, mapO, treeL, AVal.tree, AVal.flatT, isFlat, ares, isFz, afroz, afrozB, lookupA, lookupH, tops, if_true, if_false, reduceCtorEq, forall_const, ite_true, ite_false, implies_true, walkS, tabS, Try.results14, eq_false h6, mapC_nil]
  obtain ⟨e1, e2⟩ := @pf_ok v s w h hs cl ax ay bx by' N hA ⟨h4, h5, h6⟩
  rw [e1, e2]
  obtain ⟨n, rfl⟩ : ∃ n : Nat, N = n := ⟨N.toNat, by omega⟩
  rw [Int.toNat_natCast]
  simp (config := { maxSteps := 1000000 }) +decide only [NoH, Old, OldL, nilQ, nilA, RechL, ReY, isNew, stepO, XPost, postN, XOk, updN, updU, isEff, avalue, aeff, ASt.eval, ASt.put, ASt.set, ASt.new, Nat.reduceDiv, Nat.reduceAdd, Int.reduceToNat, absV, absC, scalar, alen, acap, conc, flats, live, blkOf, aload, rd, part?, afieldAddr, afield, aindexAddr, cellsOf, afill, places, abuild, optI, asliceV, asliceS, szOk, srcCells, aappend, astore, amakeSlice, abuildSlice, snapL, mapO, treeL, AVal.tree, AVal.flatT, isFlat, ares, isFz, afroz, afrozB, lookupA, lookupH, tops, if_true, if_false, reduceCtorEq, forall_const, ite_true, ite_false, implies_true, walkS, tabS, Try.results14, eq_true h6]
  refine callK (den_profilePlaces ax ay bx by' n h2 h3 (by omega)) (by first | exact .inl rfl | exact .inr rfl) ?_
  simp (config := { maxSteps := 1000000 }) +decide only [NoH, Old, OldL, nilQ, nilA, RechL, ReY, isNew, stepO, XPost, postN, XOk, updN, updU, isEff, avalue, aeff, ASt.eval, ASt.put, ASt.set, ASt.new, Nat.reduceDiv, Nat.reduceAdd, Int.reduceToNat, absV, absC, scalar, alen, acap, conc, flats, live, blkOf, aload, rd, part?, afieldAddr, afield, aindexAddr, cellsOf, afill, places, abuild, optI, asliceV, asliceS, szOk, srcCells, aappend, astore, amakeSlice, abuildSlice, snapL, mapO, treeL, AVal.tree, AVal.flatT, isFlat, ares, isFz, afroz, afrozB, lookupA, lookupH, tops, if_true, if_false, reduceCtorEq, forall_const, ite_true, ite_false, implies_true, walkS, tabS, Try.results14]
  have hpl : (plL ax ay bx by' n).length = n * 2 := fl_len _ _ _
  refine ex_loop (fun p : {p : Nat × Nat × Nat // p.1 ≤ n} => mkG (ghs [] [5, 6, 7, 58]) [(4, .bnd f [terV s w h hs cl]), (12, .own 59 p.1.2.1 0 p.1.1), (48, .lst (mapC AVal.i (plL ax ay bx by' n)) n), (49, .i n), (50, .i p.1.1)] [(59, ⟨p.1.2.1, 1, mapC AVal.i (pfK v ax ay bx by' n p.1.1)⟩)] p.1.2.2 62) (fun p => n - p.1.1) ⟨(0, 2, 3), Nat.zero_le _⟩ ?_ ?_
  · refine weak_mk rfl (by first | exact Nat.le_refl _ | (simp only [mk_gen]; omega)) ?_ ?_ <;> simp +decide only [w_lookup_nil, w_lookup_cons, ch_ch, ch_lit, lit_ch, wkT, wkH, wkB, WVL, WV_refl', Int.natCast_zero, Int.natCast_add, Int.natCast_one, Nat.sub_self, Nat.sub_zero, List.replicate_zero, List.take_zero, List.nil_append, List.append_nil, fillC_zero, Nat.reduceDiv, Nat.reduceAdd, upd_bk, bk_at, getB_zero, getB_succ, modB_zero, modB_succ, rows_lit, repB_zero, repB_succ, List.length_cons, List.length_nil, upd_upd_same, upd_apply, mk_tmp, mk_heap, mk_gen, lookupA, lookupH, List.getD_cons_zero, List.getD_cons_succ, init_two, tops, Bool.true_and, and_self, and_true, true_and, true_or, if_true, if_false, ite_true, ite_false, reduceCtorEq, reduceIte, pfK_zero, mapC_nil]
    exact WV_nl (blk := ⟨2, 1, []⟩) rfl rfl rfl rfl
  rintro ⟨⟨k, g, G⟩, hk⟩
  have hk' : k ≤ n := hk
  have hcl := pfK_len v ax ay bx by' n k
  by_cases hlt : k < n
  · have hltI : (k : Int) < (n : Int) := by omega
    have w7 : IntKind.i64.wrap ((k : Int) + 1) = ((k + 1 : Nat) : Int) := wrap64 (by omega) (by omega)
    have h8 : (k + 1) * 8 ≤ 140737488355328 := by omega
    have tk : (pfK v ax ay bx by' n k).take k = pfK v ax ay bx by' n k := List.take_of_length_le (by omega)
    have ld := fl_ld (plX ax ay bx by' n) (plY ax ay bx by' n) hlt
    have ld' : mapC AVal.i (List.take 2 (List.drop (k * 2) (plL ax ay bx by' n))) = [.i (plX ax ay bx by' n k), .i (plY ax ay bx by' n k)] := ld
    have c1 : k * 2 + 2 ≤ n * 2 := by omega
    have c2 : (k + 1) * 2 ≤ n * 2 := by omega
    simp (config := { maxSteps := 1000000 }) +decide only [NoH, Old, OldL, nilQ, nilA, RechL, ReY, isNew, stepO, XPost, postN, XOk, updN, updU, isEff, avalue, aeff, ASt.eval, ASt.put, ASt.set, ASt.new, Nat.reduceDiv, Nat.reduceAdd, Int.reduceToNat, absV, absC, scalar, alen, acap, conc, flats, live, blkOf, aload, rd, part?, afieldAddr, afield, aindexAddr, cellsOf, afill, places, abuild, optI, asliceV, asliceS, szOk, srcCells, aappend, astore, amakeSlice, abuildSlice, snapL, mapO, treeL, AVal.tree, AVal.flatT, isFlat, ares, isFz, afroz, afrozB, lookupA, lookupH, tops, if_true, if_false, reduceCtorEq, forall_const, ite_true, ite_false, implies_true, walkS, tabS, Try.results14, eq_true hltI, hlt, hpl, ld', c1, c2]
    refine callK (hv h1 _ _ (pl_in (by omega) hlt h5 h6)) (by first | exact .inl rfl | exact .inr rfl) ?_
    simp (config := { maxSteps := 1000000 }) +decide only [NoH, Old, OldL, nilQ, nilA, RechL, ReY, isNew, stepO, XPost, postN, XOk, updN, updU, isEff, avalue, aeff, ASt.eval, ASt.put, ASt.set, ASt.new, Nat.reduceDiv, Nat.reduceAdd, Int.reduceToNat, absV, absC, scalar, alen, acap, conc, flats, live, blkOf, aload, rd, part?, afieldAddr, afield, aindexAddr, cellsOf, afill, places, abuild, optI, asliceV, asliceS, szOk, srcCells, aappend, astore, amakeSlice, abuildSlice, snapL, mapO, treeL, AVal.tree, AVal.flatT, isFlat, ares, isFz, afroz, afrozB, lookupA, lookupH, tops, if_true, if_false, reduceCtorEq, forall_const, ite_true, ite_false, implies_true, walkS, tabS, Try.results14, hcl, h8, tk, w7, List.replicate_succ, List.flatten_cons, List.flatten_nil, mapC_snoc, pfK_succ]
    refine ⟨⟨(k + 1, G + 1, G + 2), hlt⟩, ?_, by show _ - (k + 1) < _ - k; omega⟩
    refine weak_mk rfl (by first | exact Nat.le_refl _ | (simp only [mk_gen]; omega)) ?_ ?_ <;> simp +decide only [w_lookup_nil, w_lookup_cons, ch_ch, ch_lit, lit_ch, wkT, wkH, wkB, WVL, WV_refl', Int.natCast_zero, Int.natCast_add, Int.natCast_one, Nat.sub_self, Nat.sub_zero, List.replicate_zero, List.take_zero, List.nil_append, List.append_nil, fillC_zero, Nat.reduceDiv, Nat.reduceAdd, upd_bk, bk_at, getB_zero, getB_succ, modB_zero, modB_succ, rows_lit, repB_zero, repB_succ, List.length_cons, List.length_nil, upd_upd_same, upd_apply, mk_tmp, mk_heap, mk_gen, lookupA, lookupH, List.getD_cons_zero, List.getD_cons_succ, init_two, tops, Bool.true_and, and_self, and_true, true_and, true_or, if_true, if_false, ite_true, ite_false, reduceCtorEq, reduceIte]
  have e : k = n := by omega
  subst e
  have hltI : ¬ (k : Int) < (k : Int) := by omega
  have ht : (pfK v ax ay bx by' k k).take k = pfK v ax ay bx by' k k := List.take_of_length_le (by omega)
  simp (config := { maxSteps := 1000000 }) +decide only [NoH, Old, OldL, nilQ, nilA, RechL, ReY, isNew, stepO, XPost, postN, XOk, updN, updU, isEff, avalue, aeff, ASt.eval, ASt.put, ASt.set, ASt.new, Nat.reduceDiv, Nat.reduceAdd, Int.reduceToNat, absV, absC, scalar, alen, acap, conc, flats, live, blkOf, aload, rd, part?, afieldAddr, afield, aindexAddr, cellsOf, afill, places, abuild, optI, asliceV, asliceS, szOk, srcCells, aappend, astore, amakeSlice, abuildSlice, snapL, mapO, treeL, AVal.tree, AVal.flatT, isFlat, ares, isFz, afroz, afrozB, lookupA, lookupH, tops, if_true, if_false, reduceCtorEq, forall_const, ite_true, ite_false, implies_true, walkS, tabS, Try.results14, eq_false hltI, hcl, ht]
end Go.Proofs.Ytngghngfgpiomaa
