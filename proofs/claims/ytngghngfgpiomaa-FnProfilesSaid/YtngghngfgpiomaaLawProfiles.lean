/-
  For every input the law FnProfiles returns true.
-/
import Derived.Test.YtngghngfgpiomaaTeI
import Derived.Test.YtngghngfgpiomaaTeK
import Derived.Test.YtngghngfgpiomaaTeJ
import Derived.Test.YtngghngfgpiomaaPtE
import Derived.Test.YtngghngfgpiomaaLawBase
namespace Go.Proofs.Ytngghngfgpiomaa
open Go Go.Own Go.Proofs Go.ChangeShapes Go.WideShapes Go.ChangeAt Go.RowKit
set_option maxHeartbeats 4000000
set_option maxRecDepth 20000
set_option linter.unusedSimpArgs false
theorem den_lawF (hF : FlatSaid) (bs : List Int) (hb0 : ∀ x ∈ bs, 0 ≤ x ∧ x ≤ 255) : Den Try.prog 3 [bytesV bs] (.b true) := by
  refine den_of_awpG (ghs [] []) Try.func3 rfl (by kernel_rfl) (Nat.le_of_ble_eq_true rfl) (by simp only [treeL, AVal.tree, treeL_i, treeL_ints, treeL_u8, treeL_append, Bool.and_self, Bool.and_true, Bool.true_and]) (by first | rfl | simp only [treeL, AVal.tree, treeL_i, treeL_ints, treeL_u8, treeL_append, Bool.and_self, Bool.and_true, Bool.true_and]) mixed (by kernel_rfl) fun hl => ?_
  simp only [lensL, lens, lensL_i, lensL_mapC, maxI, and_true, true_and] at hl
  rw [Try.ntmps3]
  refine ex_start ?_
  simp (config := { maxSteps := 1000000 }) +decide only [NoH, Old, OldL, nilQ, nilA, RechL, ReY, isNew, stepO, XPost, postN, XOk, updN, updU, isEff, avalue, aeff, ASt.eval, ASt.put, ASt.set, ASt.new, Nat.reduceDiv, Nat.reduceAdd, Int.reduceToNat, absV, absC, scalar, alen, acap, conc, flats, live, blkOf, aload, rd, part?, afieldAddr, afield, aindexAddr, cellsOf, afill, places, abuild, optI, asliceV, asliceS, szOk, srcCells, aappend, astore, amakeSlice, abuildSlice, snapL, mapO, treeL, AVal.tree, AVal.flatT, isFlat, ares, isFz, afroz, afrozB, lookupA, lookupH, tops, if_true, if_false, reduceCtorEq, forall_const, ite_true, ite_false, implies_true, walkS, tabS, Try.results3]
  refine callK (den_b10Long bs) (by first | exact .inl rfl | exact .inr rfl) ?_
  by_cases lb : 1048576 < bs.length
  · simp (config := { maxSteps := 1000000 }) +decide only [NoH, Old, OldL, nilQ, nilA, RechL, ReY, isNew, stepO, XPost, postN, XOk, updN, updU, isEff, avalue, aeff, ASt.eval, ASt.put, ASt.set, ASt.new, Nat.reduceDiv, Nat.reduceAdd, Int.reduceToNat, absV, absC, scalar, alen, acap, conc, flats, live, blkOf, aload, rd, part?, afieldAddr, afield, aindexAddr, cellsOf, afill, places, abuild, optI, asliceV, asliceS, szOk, srcCells, aappend, astore, amakeSlice, abuildSlice, snapL, mapO, treeL, AVal.tree, AVal.flatT, isFlat, ares, isFz, afroz, afrozB, lookupA, lookupH, tops, if_true, if_false, reduceCtorEq, forall_const, ite_true, ite_false, implies_true, walkS, tabS, Try.results3, eq_true lb]
  simp (config := { maxSteps := 1000000 }) +decide only [NoH, Old, OldL, nilQ, nilA, RechL, ReY, isNew, stepO, XPost, postN, XOk, updN, updU, isEff, avalue, aeff, ASt.eval, ASt.put, ASt.set, ASt.new, Nat.reduceDiv, Nat.reduceAdd, Int.reduceToNat, absV, absC, scalar, alen, acap, conc, flats, live, blkOf, aload, rd, part?, afieldAddr, afield, aindexAddr, cellsOf, afill, places, abuild, optI, asliceV, asliceS, szOk, srcCells, aappend, astore, amakeSlice, abuildSlice, snapL, mapO, treeL, AVal.tree, AVal.flatT, isFlat, ares, isFz, afroz, afrozB, lookupA, lookupH, tops, if_true, if_false, reduceCtorEq, forall_const, ite_true, ite_false, implies_true, walkS, tabS, Try.results3, eq_false lb]
  have hb : Byt bs := ⟨hb0, by omega⟩
  refine callY (deny_DrawProfileOf hF hb) (by simp (config := { maxSteps := 1000000 }) +decide only [NoH, Old, OldL, nilQ, nilA, RechL, ReY, isNew, stepO, XPost, postN, XOk, updN, updU, isEff, avalue, aeff, ASt.eval, ASt.put, ASt.set, ASt.new, Nat.reduceDiv, Nat.reduceAdd, Int.reduceToNat, absV, absC, scalar, alen, acap, conc, flats, live, blkOf, aload, rd, part?, afieldAddr, afield, aindexAddr, cellsOf, afill, places, abuild, optI, asliceV, asliceS, szOk, srcCells, aappend, astore, amakeSlice, abuildSlice, snapL, mapO, treeL, AVal.tree, AVal.flatT, isFlat, ares, isFz, afroz, afrozB, lookupA, lookupH, tops, if_true, if_false, reduceCtorEq, forall_const, ite_true, ite_false, implies_true, walkS, tabS, Try.results3]) (fun i hi => by simp (config := { maxSteps := 1000000 }) +decide only [NoH, Old, OldL, nilQ, nilA, RechL, ReY, isNew, stepO, XPost, postN, XOk, updN, updU, isEff, avalue, aeff, ASt.eval, ASt.put, ASt.set, ASt.new, Nat.reduceDiv, Nat.reduceAdd, Int.reduceToNat, absV, absC, scalar, alen, acap, conc, flats, live, blkOf, aload, rd, part?, afieldAddr, afield, aindexAddr, cellsOf, afill, places, abuild, optI, asliceV, asliceS, szOk, srcCells, aappend, astore, amakeSlice, abuildSlice, snapL, mapO, treeL, AVal.tree, AVal.flatT, isFlat, ares, isFz, afroz, afrozB, lookupA, lookupH, tops, if_true, if_false, reduceCtorEq, forall_const, ite_true, ite_false, implies_true, walkS, tabS, Try.results3]) ?_
  rintro ⟨⟨s, w, h⟩, ⟨hs, cl⟩, ⟨ax, ay⟩, ⟨bx, by'⟩, N⟩ ⟨l1, l2⟩
  clear l1 l2
  simp (config := { maxSteps := 1000000 }) +decide only [NoH, Old, OldL, nilQ, nilA, RechL, ReY, isNew, stepO, XPost, postN, XOk, updN, updU, isEff, avalue, aeff, ASt.eval, ASt.put, ASt.set, ASt.new, Nat.reduceDiv, Nat.reduceAdd, Int.reduceToNat, absV, absC, scalar, alen, acap, conc, flats, live, blkOf, aload, rd, part?, afieldAddr, afield, aindexAddr, cellsOf, afill, places, abuild, optI, asliceV, asliceS, szOk, srcCells, aappend, astore, amakeSlice, abuildSlice, snapL, mapO, treeL, AVal.tree, AVal.flatT, isFlat, ares, isFz, afroz, afrozB, lookupA, lookupH, tops, if_true, if_false, reduceCtorEq, forall_const, ite_true, ite_false, implies_true, walkS, tabS, Try.results3]
  refine callK (den_ProfileOf s w h hs cl ax ay bx by' N) (by first | exact .inl rfl | exact .inr rfl) ?_
  simp (config := { maxSteps := 1000000 }) +decide only [NoH, Old, OldL, nilQ, nilA, RechL, ReY, isNew, stepO, XPost, postN, XOk, updN, updU, isEff, avalue, aeff, ASt.eval, ASt.put, ASt.set, ASt.new, Nat.reduceDiv, Nat.reduceAdd, Int.reduceToNat, absV, absC, scalar, alen, acap, conc, flats, live, blkOf, aload, rd, part?, afieldAddr, afield, aindexAddr, cellsOf, afill, places, abuild, optI, asliceV, asliceS, szOk, srcCells, aappend, astore, amakeSlice, abuildSlice, snapL, mapO, treeL, AVal.tree, AVal.flatT, isFlat, ares, isFz, afroz, afrozB, lookupA, lookupH, tops, if_true, if_false, reduceCtorEq, forall_const, ite_true, ite_false, implies_true, walkS, tabS, Try.results3]
  refine callK (den_ProfileOf s w h hs cl bx by' ax ay N) (by first | exact .inl rfl | exact .inr rfl) ?_
  have esw := pfC_swap s w h hs cl ax ay bx by' N
  by_cases hA : PfA s w h hs cl ax ay bx by'
  case neg =>
    have hA' : ¬ PfA s w h hs cl bx by' ax ay := fun ⟨a, b, c⟩ => hA ⟨a, c, b⟩
    obtain ⟨e1, e2⟩ := @pf_A (htV s w h hs) s w h hs cl ax ay bx by' N hA
    obtain ⟨e3, e4⟩ := @pf_A (htV s w h hs) s w h hs cl bx by' ax ay N hA'
    rw [e1, e2, e3, e4]
    simp (config := { maxSteps := 1000000 }) +decide only [NoH, Old, OldL, nilQ, nilA, RechL, ReY, isNew, stepO, XPost, postN, XOk, updN, updU, isEff, avalue, aeff, ASt.eval, ASt.put, ASt.set, ASt.new, Nat.reduceDiv, Nat.reduceAdd, Int.reduceToNat, absV, absC, scalar, alen, acap, conc, flats, live, blkOf, aload, rd, part?, afieldAddr, afield, aindexAddr, cellsOf, afill, places, abuild, optI, asliceV, asliceS, szOk, srcCells, aappend, astore, amakeSlice, abuildSlice, snapL, mapO, treeL, AVal.tree, AVal.flatT, isFlat, ares, isFz, afroz, afrozB, lookupA, lookupH, tops, if_true, if_false, reduceCtorEq, forall_const, ite_true, ite_false, implies_true, walkS, tabS, Try.results3]
  by_cases hB : PfB s w h ax ay bx by' N
  case neg =>
    have hA' : PfA s w h hs cl bx by' ax ay := ⟨hA.1, hA.2.2, hA.2.1⟩
    have hB' : ¬ PfB s w h bx by' ax ay N := fun ⟨a, b, c⟩ => hB ⟨a, c, b⟩
    obtain ⟨e1, e2⟩ := @pf_B (htV s w h hs) s w h hs cl ax ay bx by' N hA hB
    obtain ⟨e3, e4⟩ := @pf_B (htV s w h hs) s w h hs cl bx by' ax ay N hA' hB'
    rw [e1, e2, e3, e4]
    simp (config := { maxSteps := 1000000 }) +decide only [NoH, Old, OldL, nilQ, nilA, RechL, ReY, isNew, stepO, XPost, postN, XOk, updN, updU, isEff, avalue, aeff, ASt.eval, ASt.put, ASt.set, ASt.new, Nat.reduceDiv, Nat.reduceAdd, Int.reduceToNat, absV, absC, scalar, alen, acap, conc, flats, live, blkOf, aload, rd, part?, afieldAddr, afield, aindexAddr, cellsOf, afill, places, abuild, optI, asliceV, asliceS, szOk, srcCells, aappend, astore, amakeSlice, abuildSlice, snapL, mapO, treeL, AVal.tree, AVal.flatT, isFlat, ares, isFz, afroz, afrozB, lookupA, lookupH, tops, if_true, if_false, reduceCtorEq, forall_const, ite_true, ite_false, implies_true, walkS, tabS, Try.results3]
  have hA' : PfA s w h hs cl bx by' ax ay := ⟨hA.1, hA.2.2, hA.2.1⟩
  have hB' : PfB s w h bx by' ax ay N := ⟨hB.1, hB.2.2, hB.2.1⟩
  obtain ⟨e1, e2⟩ := @pf_ok (htV s w h hs) s w h hs cl ax ay bx by' N hA hB
  obtain ⟨e3, e4⟩ := @pf_ok (htV s w h hs) s w h hs cl bx by' ax ay N hA' hB'
  obtain ⟨e5, e6⟩ := @pf_ok (clV s w cl) s w h hs cl ax ay bx by' N hA hB
  rw [e1, e2, e3, e4]
  obtain ⟨⟨n1, n2⟩, i1, i2⟩ := hB
  obtain ⟨hT, o1, o2⟩ := hA
  obtain ⟨n, rfl⟩ : ∃ n : Nat, N = n := ⟨N.toNat, by omega⟩
  rw [Int.toNat_natCast] at e2 e4 e6 ⊢
  have hn : 2 ≤ n ∧ n ≤ 65 := by omega
  clear e1 e2 e3 e4 esw hA' hB'
  have k1 := pfK_len (htV s w h hs) ax ay bx by' n n
  have k2 := pfK_len (htV s w h hs) bx by' ax ay n n
  have k3 := pfK_len (clV s w cl) ax ay bx by' n n
  have kn : ¬ (n : Int) < 2 := by omega
  simp (config := { maxSteps := 1000000 }) +decide only [NoH, Old, OldL, nilQ, nilA, RechL, ReY, isNew, stepO, XPost, postN, XOk, updN, updU, isEff, avalue, aeff, ASt.eval, ASt.put, ASt.set, ASt.new, Nat.reduceDiv, Nat.reduceAdd, Int.reduceToNat, absV, absC, scalar, alen, acap, conc, flats, live, blkOf, aload, rd, part?, afieldAddr, afield, aindexAddr, cellsOf, afill, places, abuild, optI, asliceV, asliceS, szOk, srcCells, aappend, astore, amakeSlice, abuildSlice, snapL, mapO, treeL, AVal.tree, AVal.flatT, isFlat, ares, isFz, afroz, afrozB, lookupA, lookupH, tops, if_true, if_false, reduceCtorEq, forall_const, ite_true, ite_false, implies_true, walkS, tabS, Try.results3, k1, k2]
  refine callK (den_ProfileClutter s w h hs cl ax ay bx by' n) (by first | exact .inl rfl | exact .inr rfl) ?_
  rw [e5, e6]
  simp (config := { maxSteps := 1000000 }) +decide only [NoH, Old, OldL, nilQ, nilA, RechL, ReY, isNew, stepO, XPost, postN, XOk, updN, updU, isEff, avalue, aeff, ASt.eval, ASt.put, ASt.set, ASt.new, Nat.reduceDiv, Nat.reduceAdd, Int.reduceToNat, absV, absC, scalar, alen, acap, conc, flats, live, blkOf, aload, rd, part?, afieldAddr, afield, aindexAddr, cellsOf, afill, places, abuild, optI, asliceV, asliceS, szOk, srcCells, aappend, astore, amakeSlice, abuildSlice, snapL, mapO, treeL, AVal.tree, AVal.flatT, isFlat, ares, isFz, afroz, afrozB, lookupA, lookupH, tops, if_true, if_false, reduceCtorEq, forall_const, ite_true, ite_false, implies_true, walkS, tabS, Try.results3, k1, k2, k3]
  refine callK (den_ProfilePlaces ax ay bx by' n o1 o2 hn) (by first | exact .inl rfl | exact .inr rfl) ?_
  simp (config := { maxSteps := 1000000 }) +decide only [NoH, Old, OldL, nilQ, nilA, RechL, ReY, isNew, stepO, XPost, postN, XOk, updN, updU, isEff, avalue, aeff, ASt.eval, ASt.put, ASt.set, ASt.new, Nat.reduceDiv, Nat.reduceAdd, Int.reduceToNat, absV, absC, scalar, alen, acap, conc, flats, live, blkOf, aload, rd, part?, afieldAddr, afield, aindexAddr, cellsOf, afill, places, abuild, optI, asliceV, asliceS, szOk, srcCells, aappend, astore, amakeSlice, abuildSlice, snapL, mapO, treeL, AVal.tree, AVal.flatT, isFlat, ares, isFz, afroz, afrozB, lookupA, lookupH, tops, if_true, if_false, reduceCtorEq, forall_const, ite_true, ite_false, implies_true, walkS, tabS, Try.results3, k1, k2, k3, eq_false kn]
  have hpl : (plL ax ay bx by' n).length = n * 2 := fl_len _ _ _
  have wn : IntKind.i64.wrap ((n : Int) - 1) = ((n - 1 : Nat) : Int) := (wrap64 (by omega) (by omega)).trans (by omega)
  generalize hL1 : pfK (htV s w h hs) ax ay bx by' n n = L1 at k1 ⊢
  generalize hL2 : pfK (htV s w h hs) bx by' ax ay n n = L2 at k2 ⊢
  refine ex_loop (fun k : {k : Nat // k ≤ n} => mkG (ghs [] []) [(3, .ptr 3 1 0), (4, .ptr 4 2 0), (5, .ptr 5 3 0), (6, .i n), (7, ints L1), (9, ints L2), (13, .lst (mapC AVal.i (plL ax ay bx by' n)) n), (15, .i k)] [(3, ⟨1, 5, [.i s, .i w, .i h, ints hs, ints cl]⟩), (4, ⟨2, 2, [.i ax, .i ay]⟩), (5, ⟨3, 2, [.i bx, .i by']⟩)] 4 180) (fun k => n - k) ⟨0, Nat.zero_le _⟩ ?_ ?_
  · refine weak_mk rfl (by first | exact Nat.le_refl _ | (simp only [mk_gen]; omega)) ?_ ?_ <;> simp +decide only [w_lookup_nil, w_lookup_cons, ch_ch, ch_lit, lit_ch, wkT, wkH, wkB, WVL, WV_refl', Int.natCast_zero, Int.natCast_add, Int.natCast_one, Nat.sub_self, Nat.sub_zero, List.replicate_zero, List.take_zero, List.nil_append, List.append_nil, fillC_zero, Nat.reduceDiv, Nat.reduceAdd, upd_bk, bk_at, getB_zero, getB_succ, modB_zero, modB_succ, rows_lit, repB_zero, repB_succ, List.length_cons, List.length_nil, upd_upd_same, upd_apply, mk_tmp, mk_heap, mk_gen, lookupA, lookupH, List.getD_cons_zero, List.getD_cons_succ, init_two, tops, Bool.true_and, and_self, and_true, true_and, true_or, if_true, if_false, ite_true, ite_false, reduceCtorEq, reduceIte]
  rintro ⟨k, hk⟩
  have hk' : k ≤ n := hk
  by_cases hlt : k < n
  · have hltI : (k : Int) < (n : Int) := by omega
    have w1 : IntKind.i64.wrap (((n - 1 : Nat) : Int) - (k : Int)) = ((n - 1 - k : Nat) : Int) := (wrap64 (by omega) (by omega)).trans (by omega)
    have w2 : IntKind.i64.wrap ((k : Int) + 1) = ((k + 1 : Nat) : Int) := wrap64 (by omega) (by omega)
    have h1 : k < L1.length := by omega
    have h2 : n - 1 - k < L2.length := by omega
    have h3 : n - 1 - k < n := by omega
    have er : L2[n - 1 - k] = L1[k] := by
      subst hL1
      subst hL2
      exact pf_rev (htV s w h hs) hn.1 hlt h1 h2
    simp (config := { maxSteps := 1000000 }) +decide only [NoH, Old, OldL, nilQ, nilA, RechL, ReY, isNew, stepO, XPost, postN, XOk, updN, updU, isEff, avalue, aeff, ASt.eval, ASt.put, ASt.set, ASt.new, Nat.reduceDiv, Nat.reduceAdd, Int.reduceToNat, absV, absC, scalar, alen, acap, conc, flats, live, blkOf, aload, rd, part?, afieldAddr, afield, aindexAddr, cellsOf, afill, places, abuild, optI, asliceV, asliceS, szOk, srcCells, aappend, astore, amakeSlice, abuildSlice, snapL, mapO, treeL, AVal.tree, AVal.flatT, isFlat, ares, isFz, afroz, afrozB, lookupA, lookupH, tops, if_true, if_false, reduceCtorEq, forall_const, ite_true, ite_false, implies_true, walkS, tabS, Try.results3, eq_true hltI, hlt, wn, w1, w2, h1, h2, h3, er]
    refine ⟨⟨k + 1, hlt⟩, ?_, by show n - (k + 1) < n - k; omega⟩
    refine weak_mk rfl (by first | exact Nat.le_refl _ | (simp only [mk_gen]; omega)) ?_ ?_ <;> simp +decide only [w_lookup_nil, w_lookup_cons, ch_ch, ch_lit, lit_ch, wkT, wkH, wkB, WVL, WV_refl', Int.natCast_zero, Int.natCast_add, Int.natCast_one, Nat.sub_self, Nat.sub_zero, List.replicate_zero, List.take_zero, List.nil_append, List.append_nil, fillC_zero, Nat.reduceDiv, Nat.reduceAdd, upd_bk, bk_at, getB_zero, getB_succ, modB_zero, modB_succ, rows_lit, repB_zero, repB_succ, List.length_cons, List.length_nil, upd_upd_same, upd_apply, mk_tmp, mk_heap, mk_gen, lookupA, lookupH, List.getD_cons_zero, List.getD_cons_succ, init_two, tops, Bool.true_and, and_self, and_true, true_and, true_or, if_true, if_false, ite_true, ite_false, reduceCtorEq, reduceIte]
  have e : k = n := by omega
  subst e
  have hltI : ¬ (k : Int) < (k : Int) := by omega
  have g0 : 0 < L1.length := by omega
  have g1 : k - 1 < L1.length := by omega
  have v0 : L1[0] = htV s w h hs ax ay := by
    subst hL1
    rw [pfK_get, (pl_zero hn.1).1, (pl_zero hn.1).2]
  have v1 : L1[k - 1] = htV s w h hs bx by' := by
    subst hL1
    rw [pfK_get, (pl_last hn.1).1, (pl_last hn.1).2]
  have f0 := fl_ld (plX ax ay bx by' k) (plY ax ay bx by' k) (n := k) (k := 0) (by omega)
  have f1 := fl_ld (plX ax ay bx by' k) (plY ax ay bx by' k) (n := k) (k := k - 1) (by omega)
  rw [(pl_zero hn.1).1, (pl_zero hn.1).2] at f0
  rw [(pl_last hn.1).1, (pl_last hn.1).2] at f1
  have f0' : mapC AVal.i (List.take 2 (List.drop (0 * 2) (plL ax ay bx by' k))) = [.i ax, .i ay] := f0
  have f1' : mapC AVal.i (List.take 2 (List.drop ((k - 1) * 2) (plL ax ay bx by' k))) = [.i bx, .i by'] := f1
  have c0 : 0 < k := by omega
  have c0I : (0 : Int) < (k : Int) := by omega
  have g0I : (0 : Int) < (L1.length : Int) := by omega
  have c1 : k - 1 < k := by omega
  have c2 : 2 ≤ k * 2 := by omega
  have c3 : (k - 1) * 2 + 2 ≤ k * 2 := by omega
  have c4 : (k - 1 + 1) * 2 ≤ k * 2 := by omega
  have p1 : (ax == ax && ay == ay) = true := by simp
  have p2 : (bx == bx && by' == by') = true := by simp
  simp (config := { maxSteps := 1000000 }) +decide only [NoH, Old, OldL, nilQ, nilA, RechL, ReY, isNew, stepO, XPost, postN, XOk, updN, updU, isEff, avalue, aeff, ASt.eval, ASt.put, ASt.set, ASt.new, Nat.reduceDiv, Nat.reduceAdd, Int.reduceToNat, absV, absC, scalar, alen, acap, conc, flats, live, blkOf, aload, rd, part?, afieldAddr, afield, aindexAddr, cellsOf, afill, places, abuild, optI, asliceV, asliceS, szOk, srcCells, aappend, astore, amakeSlice, abuildSlice, snapL, mapO, treeL, AVal.tree, AVal.flatT, isFlat, ares, isFz, afroz, afrozB, lookupA, lookupH, tops, if_true, if_false, reduceCtorEq, forall_const, ite_true, ite_false, implies_true, walkS, tabS, Try.results3, eq_false hltI]
  refine callK (den_HeightAt s w h hs cl hT ax ay i1) (by first | exact .inl rfl | exact .inr rfl) ?_
  simp (config := { maxSteps := 1000000 }) +decide only [NoH, Old, OldL, nilQ, nilA, RechL, ReY, isNew, stepO, XPost, postN, XOk, updN, updU, isEff, avalue, aeff, ASt.eval, ASt.put, ASt.set, ASt.new, Nat.reduceDiv, Nat.reduceAdd, Int.reduceToNat, absV, absC, scalar, alen, acap, conc, flats, live, blkOf, aload, rd, part?, afieldAddr, afield, aindexAddr, cellsOf, afill, places, abuild, optI, asliceV, asliceS, szOk, srcCells, aappend, astore, amakeSlice, abuildSlice, snapL, mapO, treeL, AVal.tree, AVal.flatT, isFlat, ares, isFz, afroz, afrozB, lookupA, lookupH, tops, if_true, if_false, reduceCtorEq, forall_const, ite_true, ite_false, implies_true, walkS, tabS, Try.results3]
  refine callK (den_HeightAt s w h hs cl hT bx by' i2) (by first | exact .inl rfl | exact .inr rfl) ?_
  simp (config := { maxSteps := 1000000 }) +decide only [NoH, Old, OldL, nilQ, nilA, RechL, ReY, isNew, stepO, XPost, postN, XOk, updN, updU, isEff, avalue, aeff, ASt.eval, ASt.put, ASt.set, ASt.new, Nat.reduceDiv, Nat.reduceAdd, Int.reduceToNat, absV, absC, scalar, alen, acap, conc, flats, live, blkOf, aload, rd, part?, afieldAddr, afield, aindexAddr, cellsOf, afill, places, abuild, optI, asliceV, asliceS, szOk, srcCells, aappend, astore, amakeSlice, abuildSlice, snapL, mapO, treeL, AVal.tree, AVal.flatT, isFlat, ares, isFz, afroz, afrozB, lookupA, lookupH, tops, if_true, if_false, reduceCtorEq, forall_const, ite_true, ite_false, implies_true, walkS, tabS, Try.results3, wn, g0, g1, v0, v1, f0', f1', hpl, c0, c0I, g0I, c1, c2, c3, c4, sem_ptEql, p1, p2]
theorem den_law (bs : List Int) (hb0 : ∀ x ∈ bs, 0 ≤ x ∧ x ≤ 255) : Den Try.prog 3 [bytesV bs] (.b true) := den_lawF flatSaid bs hb0
theorem shape_bytes : shapeOf Try.prog 20 22 = some (.slice 1 (.int .u8)) := by kernel_rfl
set_option maxRecDepth 100000 in
theorem law_lifted (os : Os) (started : os.Started) (H : Type) (enc : TypeId × Value → H) :
    ReturnsInHanded {} Try.checked os 3 .any (Rows.fnProfilesSpec.pre6 enc Try.prog Try.f3 Rows.fnProfilesRow.domain false) (Rows.fnProfilesSpec.post enc Try.prog Try.f3 false true false false) := by
  refine returnsInHanded_of_change (C := Try.checked) ownK started (by kernel_rfl) Try.func3
    (ChangeSpec.witness6 (enc := enc) (C := Try.checked) false ⟨#[], #[.slice none 0 0], []⟩ 8 (by kernel_rfl) (by kernel_rfl) (by kernel_rfl) (by kernel_rfl)) ?_
  intro W base args ds gs before hval hW hcnd _
  have e : Try.f3.params.toList = [22] := by kernel_rfl
  refine law_calls (C := Try.prog) (tb := 4) laidOut rfl rfl (by kernel_rfl) ?_ ?_ hval hW (noGlobs _) ?_
  · intro t ht
    rw [e] at ht
    simp only [List.mem_cons, List.mem_nil_iff, or_false] at ht
    subst ht
    exact ⟨by kernel_rfl, of_decide_eq_true (by kernel_rfl), by rw [shape_bytes]; rfl⟩
  · intro ds hds
    match ds, hds with
    | [_d0], _ => exact ⟨rfl, rfl, rfl⟩
  · intro asl has
    rw [e] at has
    obtain ⟨a0, r0, σ0, rfl, hs0, hv0, rfl⟩ := has
    rw [shape_bytes] at hs0
    simp only [Option.some.injEq] at hs0
    subst hs0
    obtain ⟨xs0, rfl, hy0⟩ := has_bytesV hv0
    exact den_law xs0 hy0
theorem law_holds : Rows.FnProfilesSaid :=
  OpenClaim.holds_of_wide 3 Try.f3 rfl rfl rfl rfl rfl rfl rfl ⟨rfl, rfl, rfl, rfl, rfl⟩ rfl rfl rfl rfl rfl (by kernel_rfl) Try.func3 (by kernel_rfl)
    (of_decide_eq_true (by kernel_rfl)) (by unfold Func.isWrapper; first | (rw [if_pos (by decide +kernel)]; kernel_rfl) | (rw [if_neg (by decide +kernel)]; exact ⟨rfl, rfl⟩))
    (fun os started H enc _ => law_lifted os started H enc)
end Go.Proofs.Ytngghngfgpiomaa
