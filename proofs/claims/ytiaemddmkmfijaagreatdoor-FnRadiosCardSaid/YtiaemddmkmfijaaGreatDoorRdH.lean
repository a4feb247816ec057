/-
  OWN WORK: radios read back from their texts.
-/
import Derived.Test.YtiaemddmkmfijaaGreatDoorRdG
import Derived.Test.YtiaemddmkmfijaaGreatDoorTxF
namespace Go.Proofs.YtiaemddmkmfijaaGreatDoor
open Go Go.Own Go.Proofs
set_option maxHeartbeats 4000000
set_option maxRecDepth 20000
set_option linter.unusedSimpArgs false
set_option linter.unusedVariables false
def fourL (r : Rd) : List Int := [r.pw, r.fd, r.ns, r.wd]
def fourT (r : Rd) : List (List UInt8) := [Lib.itoa r.pw, Lib.itoa r.fd, Lib.itoa r.ns, Lib.itoa r.wd]
def fourK (r : Rd) (k : Nat) : List Int := (fourL r).take k ++ List.replicate (4 - k) 0
theorem four_cases {k : Nat} (h : k < 4) : k = 0 ∨ k = 1 ∨ k = 2 ∨ k = 3 := by omega
theorem fourT_at (r : Rd) {k : Nat} (h : k < 4) : (mapC AVal.t (fourT r))[k]? = some (.t (Lib.itoa ((fourL r).getD k 0))) := by
  rcases four_cases h with rfl | rfl | rfl | rfl <;> rfl
theorem fourK_set (r : Rd) {k : Nat} (h : k < 4) (v : Int) (hv : (fourL r).getD k 0 = v) : lay (mapC AVal.i (fourK r k)) k [.i v] = mapC AVal.i (fourK r (k + 1)) := by
  subst hv
  rcases four_cases h with rfl | rfl | rfl | rfl <;> rfl
theorem fourK_len (r : Rd) {k : Nat} (h : k ≤ 4) : (mapC AVal.i (fourK r k)).length = 4 := by
  simp [mapC, fourK, fourL]
  omega
theorem mdT_chars (L : List Int) (k : Nat) : ∀ c ∈ mdT L k, c = 47 ∨ NumC c := fun c hc => by
  unfold mdT at hc
  rcases List.mem_append.1 hc with hc | hc
  · rcases List.mem_append.1 hc with hc | hc
    · exact .inr (itoa_numC _ c hc)
    · simp only [List.mem_singleton] at hc
      exact .inl hc
  · exact .inr (itoa_numC _ c hc)
theorem numC_47 {c : UInt8} (h : NumC c) : c ≠ 47 := fun e => by
  subst e
  rcases h with h | h
  · exact absurd h (by decide)
  · unfold IsDig at h
    have : (47 : UInt8).toNat = 47 := rfl
    omega
theorem mdTs_44 (L : List Int) (n : Nat) : ∀ x ∈ mdTs L n, (44 : UInt8) ∉ x := fun x hx hc => by
  obtain ⟨k, _, rfl⟩ := List.mem_map.1 hx
  rcases mdT_chars L k 44 hc with h | h
  · exact absurd h (by decide)
  · exact (numC_not h).1 rfl
theorem cut_md (L : List Int) (k : Nat) : Lib.cut (mdT L k) [47] = (Lib.itoa (mN L k), Lib.itoa (mR L k), true) := by
  have no : (47 : UInt8) ∉ Lib.itoa (mN L k) := fun h => numC_47 (itoa_numC _ _ h) rfl
  have em : mdT L k = Lib.itoa (mN L k) ++ 47 :: Lib.itoa (mR L k) := by simp [mdT]
  rw [em]
  unfold Lib.cut
  rw [index_at _ no]
  simp
/-- the first modes -/
def mdK (L : List Int) (k : Nat) : List Int := L.take (k * 2)
theorem mdK_snoc {L : List Int} {k : Nat} (h : k * 2 + 2 ≤ L.length) : mapC AVal.i (mdK L k) ++ [AVal.i (mN L k), AVal.i (mR L k)] = mapC AVal.i (mdK L (k + 1)) := by
  have h1 : k * 2 < L.length := by omega
  have h2 : k * 2 + 1 < L.length := by omega
  have e1 : mN L k = L[k * 2] := by simp [mN, List.getD, h1]
  have e2 : mR L k = L[k * 2 + 1] := by simp [mR, List.getD, h2]
  unfold mdK
  rw [show (k + 1) * 2 = k * 2 + 1 + 1 by omega, List.take_succ_eq_append_getElem h2, List.take_succ_eq_append_getElem h1, e1, e2]
  simp only [mapC, List.map_append, List.map_cons, List.map_nil, List.append_assoc, List.cons_append, List.nil_append]
theorem den_ReadRadio {r : Rd} (h : RdOk r) (hb : RdB r) (hs : ∀ x ∈ rdF r, (32 : UInt8) ∉ x) : Den Tryz.prog 34 [.t (rdT r)] (.tup [rdV r, .b true]) := by
  refine den_of_awpG (ghs [] [82]) Tryz.func34 rfl (by kernel_rfl) (Nat.le_of_ble_eq_true rfl) (by simp only [treeL, AVal.tree, treeL_i, treeL_ints, treeL_u8, treeL_append, Bool.and_self, Bool.and_true, Bool.true_and]) (by first | rfl | simp only [treeL, AVal.tree, treeL_i, treeL_ints, treeL_u8, treeL_append, Bool.and_self, Bool.and_true, Bool.true_and]) mixed (by kernel_rfl) fun hl => ?_
  simp only [lensL, lens, lensL_i, lensL_mapC, maxI, and_true, true_and] at hl
  rw [Tryz.ntmps34]
  refine ex_start ?_
  have dS := den_Split (rdF r) 32 (by unfold rdF; simp) hs (by have := rdT_len h; show (rdT r).length < _; omega)
  have l6 : (rdF r).length = 6 := rfl
  have l6I : ((rdF r).length : Int) = 6 := rfl
  have e4 : List.take (5 - 1) (List.drop 1 (rdF r)) = fourT r := rfl
  have e5 : (5 - 1 : Nat) = 4 := rfl
  have a2 := h.pw
  have a3 := h.fd
  have a4 := h.ns
  have a5 := h.wd
  have z2 : AVal.s ByteArray.empty = AVal.t [] := rfl
  simp (config := { maxSteps := 1000000 }) +decide only [NoH, Old, OldL, nilQ, nilA, asgn, nz, RechL, ReY, isNew, stepO, XPost, postN, XOk, updN, updU, isEff, avalue, aeff, ASt.eval, ASt.put, ASt.set, ASt.new, Nat.reduceDiv, Nat.reduceAdd, Int.reduceToNat, absV, absC, scalar, alen, acap, conc, flats, live, blkOf, aload, rd, part?, afieldAddr, afield, aindexAddr, cellsOf, afill, places, abuild, optI, asliceV, asliceS, szOk, srcCells, aappend, acopy, astore, amakeSlice, abuildSlice, snapL, mapO, treeL, AVal.tree, AVal.flatT, isFlat, ares, isFz, afroz, afrozB, lookupA, lookupH, tops, if_true, if_false, reduceCtorEq, forall_const, ite_true, ite_false, implies_true, walkS, tabS, Tryz.results34]
  refine callK (dS) (by first | exact .inl rfl | exact .inr rfl) ?_
  simp (config := { maxSteps := 1000000 }) +decide only [NoH, Old, OldL, nilQ, nilA, asgn, nz, RechL, ReY, isNew, stepO, XPost, postN, XOk, updN, updU, isEff, avalue, aeff, ASt.eval, ASt.put, ASt.set, ASt.new, Nat.reduceDiv, Nat.reduceAdd, Int.reduceToNat, absV, absC, scalar, alen, acap, conc, flats, live, blkOf, aload, rd, part?, afieldAddr, afield, aindexAddr, cellsOf, afill, places, abuild, optI, asliceV, asliceS, szOk, srcCells, aappend, acopy, astore, amakeSlice, abuildSlice, snapL, mapO, treeL, AVal.tree, AVal.flatT, isFlat, ares, isFz, afroz, afrozB, lookupA, lookupH, tops, if_true, if_false, reduceCtorEq, forall_const, ite_true, ite_false, implies_true, walkS, tabS, Tryz.results34, l6, l6I, e4, e5]
  refine ex_loop (fun k : {k : Nat // k ≤ 4} => mkG (ghs [] [82]) [(0, .t (rdT r)), (2, .ptr 2 0 0), (4, strs (rdF r)), (5, .ptr 5 1 0), (25, .lst (mapC AVal.t (fourT r)) 4), (26, .i (4 : Nat)), (27, .i k.1)] [(2, ⟨0, 6, [.flat (.string ByteArray.empty), .i 0, .i 0, .i 0, .i 0, .nl]⟩), (5, ⟨1, 4, mapC AVal.i (fourK r k.1)⟩)] 2 97) (fun k => 4 - k.1) ⟨0, Nat.zero_le _⟩ ?_ ?_
  · have e0 : mapC AVal.i (fourK r 0) = [.i 0, .i 0, .i 0, .i 0] := rfl
    refine weak_mk rfl (by first | exact Nat.le_refl _ | (simp only [mk_gen]; omega)) ?_ ?_ <;> simp +decide only [w_lookup_nil, w_lookup_cons, ch_ch, ch_lit, lit_ch, wkT, wkH, wkB, WVL, WV_refl', Int.natCast_zero, Int.natCast_add, Int.natCast_one, Nat.sub_self, Nat.sub_zero, List.replicate_zero, List.take_zero, List.nil_append, List.append_nil, fillC_zero, Nat.reduceDiv, Nat.reduceAdd, upd_bk, bk_at, getB_zero, getB_succ, modB_zero, modB_succ, rows_lit, repB_zero, repB_succ, List.length_cons, List.length_nil, upd_upd_same, upd_apply, mk_tmp, mk_heap, mk_gen, lookupA, lookupH, List.getD_cons_zero, List.getD_cons_succ, init_two, tops, Bool.true_and, and_self, and_true, true_and, true_or, if_true, if_false, ite_true, ite_false, reduceCtorEq, reduceIte, e0]
  rintro ⟨k, k1⟩
  have k1' : k ≤ 4 := k1
  by_cases hlt : k < 4
  · have hltI : (k : Int) < ((4 : Nat) : Int) := by omega
    have hlt4 : (k : Int) < 4 := by omega
    have wk : IntKind.i64.wrap ((k : Int) + 1) = ((k + 1 : Nat) : Int) := wrap64 (by omega) (by omega)
    have ct := fourT_at r hlt
    have lk := fourK_len r k1'
    have hlf : k < (fourT r).length := hlt
    have bv : In18 ((fourL r).getD k 0) := by
      unfold In18
      rcases four_cases hlt with rfl | rfl | rfl | rfl
      · show -1000000000000000000 < r.pw ∧ r.pw < 1000000000000000000; omega
      · show -1000000000000000000 < r.fd ∧ r.fd < 1000000000000000000; omega
      · show -1000000000000000000 < r.ns ∧ r.ns < 1000000000000000000; omega
      · show -1000000000000000000 < r.wd ∧ r.wd < 1000000000000000000; omega
    have st := fourK_set r hlt _ rfl
    generalize (fourL r).getD k 0 = v at *
    simp (config := { maxSteps := 1000000 }) +decide only [NoH, Old, OldL, nilQ, nilA, asgn, nz, RechL, ReY, isNew, stepO, XPost, postN, XOk, updN, updU, isEff, avalue, aeff, ASt.eval, ASt.put, ASt.set, ASt.new, Nat.reduceDiv, Nat.reduceAdd, Int.reduceToNat, absV, absC, scalar, alen, acap, conc, flats, live, blkOf, aload, rd, part?, afieldAddr, afield, aindexAddr, cellsOf, afill, places, abuild, optI, asliceV, asliceS, szOk, srcCells, aappend, acopy, astore, amakeSlice, abuildSlice, snapL, mapO, treeL, AVal.tree, AVal.flatT, isFlat, ares, isFz, afroz, afrozB, lookupA, lookupH, tops, if_true, if_false, reduceCtorEq, forall_const, ite_true, ite_false, implies_true, walkS, tabS, Tryz.results34, eq_true hltI, hlt, hlf, ct]
    refine callK (den_ReadDecimal v bv) (by first | exact .inl rfl | exact .inr rfl) ?_
    simp (config := { maxSteps := 1000000 }) +decide only [NoH, Old, OldL, nilQ, nilA, asgn, nz, RechL, ReY, isNew, stepO, XPost, postN, XOk, updN, updU, isEff, avalue, aeff, ASt.eval, ASt.put, ASt.set, ASt.new, Nat.reduceDiv, Nat.reduceAdd, Int.reduceToNat, absV, absC, scalar, alen, acap, conc, flats, live, blkOf, aload, rd, part?, afieldAddr, afield, aindexAddr, cellsOf, afill, places, abuild, optI, asliceV, asliceS, szOk, srcCells, aappend, acopy, astore, amakeSlice, abuildSlice, snapL, mapO, treeL, AVal.tree, AVal.flatT, isFlat, ares, isFz, afroz, afrozB, lookupA, lookupH, tops, if_true, if_false, reduceCtorEq, forall_const, ite_true, ite_false, implies_true, walkS, tabS, Tryz.results34, hlt, hltI, hlt4, lk, st, wk]
    refine ⟨⟨k + 1, hlt⟩, ?_, by show 4 - (k + 1) < 4 - k; omega⟩
    refine weak_mk rfl (by first | exact Nat.le_refl _ | (simp only [mk_gen]; omega)) ?_ ?_ <;> simp +decide only [w_lookup_nil, w_lookup_cons, ch_ch, ch_lit, lit_ch, wkT, wkH, wkB, WVL, WV_refl', Int.natCast_zero, Int.natCast_add, Int.natCast_one, Nat.sub_self, Nat.sub_zero, List.replicate_zero, List.take_zero, List.nil_append, List.append_nil, fillC_zero, Nat.reduceDiv, Nat.reduceAdd, upd_bk, bk_at, getB_zero, getB_succ, modB_zero, modB_succ, rows_lit, repB_zero, repB_succ, List.length_cons, List.length_nil, upd_upd_same, upd_apply, mk_tmp, mk_heap, mk_gen, lookupA, lookupH, List.getD_cons_zero, List.getD_cons_succ, init_two, tops, Bool.true_and, and_self, and_true, true_and, true_or, if_true, if_false, ite_true, ite_false, reduceCtorEq, reduceIte]
  have ek : k = 4 := by omega
  subst ek
  have hltI : ¬ ((4 : Nat) : Int) < ((4 : Nat) : Int) := by omega
  have cf : mapC AVal.i (fourK r 4) = [.i r.pw, .i r.fd, .i r.ns, .i r.wd] := rfl
  have cF : mapC AVal.t (rdF r) = [.t r.nm, .t (Lib.itoa r.pw), .t (Lib.itoa r.fd), .t (Lib.itoa r.ns), .t (Lib.itoa r.wd), .t (Lib.join (mdTs r.ms r.mn) [44])] := rfl
  simp (config := { maxSteps := 1000000 }) +decide only [NoH, Old, OldL, nilQ, nilA, asgn, nz, RechL, ReY, isNew, stepO, XPost, postN, XOk, updN, updU, isEff, avalue, aeff, ASt.eval, ASt.put, ASt.set, ASt.new, Nat.reduceDiv, Nat.reduceAdd, Int.reduceToNat, absV, absC, scalar, alen, acap, conc, flats, live, blkOf, aload, rd, part?, afieldAddr, afield, aindexAddr, cellsOf, afill, places, abuild, optI, asliceV, asliceS, szOk, srcCells, aappend, acopy, astore, amakeSlice, abuildSlice, snapL, mapO, treeL, AVal.tree, AVal.flatT, isFlat, ares, isFz, afroz, afrozB, lookupA, lookupH, tops, if_true, if_false, reduceCtorEq, forall_const, ite_true, ite_false, implies_true, walkS, tabS, Tryz.results34, eq_false hltI, cf, cF, l6]
  have lm := hb.lm
  have l1 := h.l1
  have l8 := h.l8
  have lj := mds_len h
  have lt := mdTs_len r.ms r.mn
  have jl := join_length (mdTs r.ms r.mn) 44
  have hne : mdTs r.ms r.mn ≠ [] := fun e => by rw [e] at lt; simp at lt; omega
  have dN := den_SplitN (Lib.join (mdTs r.ms r.mn) [44]) 44 9 (by omega) (by omega) (by omega)
  rw [splitK_join (mdTs r.ms r.mn) _ hne (mdTs_44 _ _) (by omega)] at dN
  refine callK (dN) (by first | exact .inl rfl | exact .inr rfl) ?_
  simp (config := { maxSteps := 1000000 }) +decide only [NoH, Old, OldL, nilQ, nilA, asgn, nz, RechL, ReY, isNew, stepO, XPost, postN, XOk, updN, updU, isEff, avalue, aeff, ASt.eval, ASt.put, ASt.set, ASt.new, Nat.reduceDiv, Nat.reduceAdd, Int.reduceToNat, absV, absC, scalar, alen, acap, conc, flats, live, blkOf, aload, rd, part?, afieldAddr, afield, aindexAddr, cellsOf, afill, places, abuild, optI, asliceV, asliceS, szOk, srcCells, aappend, acopy, astore, amakeSlice, abuildSlice, snapL, mapO, treeL, AVal.tree, AVal.flatT, isFlat, ares, isFz, afroz, afrozB, lookupA, lookupH, tops, if_true, if_false, reduceCtorEq, forall_const, ite_true, ite_false, implies_true, walkS, tabS, Tryz.results34, lt]
  refine ex_loopW (fun p : {p : Nat × Nat × Nat // p.1 ≤ r.mn} => mkG (ghs [] [82]) [(0, .t (rdT r)), (2, .ptr 2 0 0), (8, .ptr 8 2 0), (55, strs (mdTs r.ms r.mn)), (56, .i r.mn), (57, .i p.1.1)] [(2, ⟨0, 6, [.flat (.string ByteArray.empty), .i 0, .i 0, .i 0, .i 0, .nl]⟩), (8, ⟨2, 6, [.t r.nm, .i r.pw, .i r.fd, .i r.ns, .i r.wd, .own 83 p.1.2.1 0 p.1.1]⟩), (83, ⟨p.1.2.1, 2, mapC AVal.i (mdK r.ms p.1.1)⟩)] p.1.2.2 97) (fun p => r.mn - p.1.1) ⟨(0, 3, 4), Nat.zero_le _⟩ ?_ ?_
  · have e0 : mdK r.ms 0 = [] := by simp [mdK]
    refine weak_mk rfl (by first | exact Nat.le_refl _ | (simp only [mk_gen]; omega)) ?_ ?_ <;> simp +decide only [w_lookup_nil, w_lookup_cons, ch_ch, ch_lit, lit_ch, wkT, wkH, wkB, WVL, WV_refl', Int.natCast_zero, Int.natCast_add, Int.natCast_one, Nat.sub_self, Nat.sub_zero, List.replicate_zero, List.take_zero, List.nil_append, List.append_nil, fillC_zero, Nat.reduceDiv, Nat.reduceAdd, upd_bk, bk_at, getB_zero, getB_succ, modB_zero, modB_succ, rows_lit, repB_zero, repB_succ, List.length_cons, List.length_nil, upd_upd_same, upd_apply, mk_tmp, mk_heap, mk_gen, lookupA, lookupH, List.getD_cons_zero, List.getD_cons_succ, init_two, tops, Bool.true_and, and_self, and_true, true_and, true_or, if_true, if_false, ite_true, ite_false, reduceCtorEq, reduceIte, e0, mapC_nil]
    exact .inr (WV_nl (blk := ⟨3, 2, []⟩) rfl rfl rfl rfl)
  rintro ⟨⟨k, g1, G⟩, k1⟩
  have k1' : k ≤ r.mn := k1
  have lk : (mdK r.ms k).length = k * 2 := by simp [mdK]; omega
  have lkC : (mapC AVal.i (mdK r.ms k)).length = k * 2 := by simp [mapC, lk]
  by_cases hlt : k < r.mn
  case neg =>
    have ek : k = r.mn := by omega
    subst ek
    have hltI2 : ¬ (r.mn : Int) < (r.mn : Int) := by omega
    have em : mdK r.ms r.mn = r.ms := List.take_of_length_le (by omega)
    simp (config := { maxSteps := 1000000 }) +decide only [NoH, Old, OldL, nilQ, nilA, asgn, nz, RechL, ReY, isNew, stepO, XPost, postN, XOk, updN, updU, isEff, avalue, aeff, ASt.eval, ASt.put, ASt.set, ASt.new, Nat.reduceDiv, Nat.reduceAdd, Int.reduceToNat, absV, absC, scalar, alen, acap, conc, flats, live, blkOf, aload, rd, part?, afieldAddr, afield, aindexAddr, cellsOf, afill, places, abuild, optI, asliceV, asliceS, szOk, srcCells, aappend, acopy, astore, amakeSlice, abuildSlice, snapL, mapO, treeL, AVal.tree, AVal.flatT, isFlat, ares, isFz, afroz, afrozB, lookupA, lookupH, tops, if_true, if_false, reduceCtorEq, forall_const, ite_true, ite_false, implies_true, walkS, tabS, Tryz.results34, eq_false hltI2, lt, loopW_exit]
    refine ⟨mkG (ghs [] [82]) [(0, .t (rdT r)), (2, .ptr 2 0 0), (8, .ptr 8 2 0)] [(2, ⟨0, 6, [.flat (.string ByteArray.empty), .i 0, .i 0, .i 0, .i 0, .nl]⟩), (8, ⟨2, 6, [.t r.nm, .i r.pw, .i r.fd, .i r.ns, .i r.wd, modesV r.ms r.mn]⟩)] G 97, .step ?_ (.refl _), ?_⟩
    · rw [em]
      refine weak_mk rfl (by first | exact Nat.le_refl _ | (simp only [mk_gen]; omega)) ?_ ?_ <;> simp +decide only [w_lookup_nil, w_lookup_cons, ch_ch, ch_lit, lit_ch, wkT, wkH, wkB, WVL, WV_refl', Int.natCast_zero, Int.natCast_add, Int.natCast_one, Nat.sub_self, Nat.sub_zero, List.replicate_zero, List.take_zero, List.nil_append, List.append_nil, fillC_zero, Nat.reduceDiv, Nat.reduceAdd, upd_bk, bk_at, getB_zero, getB_succ, modB_zero, modB_succ, rows_lit, repB_zero, repB_succ, List.length_cons, List.length_nil, upd_upd_same, upd_apply, mk_tmp, mk_heap, mk_gen, lookupA, lookupH, List.getD_cons_zero, List.getD_cons_succ, init_two, tops, Bool.true_and, and_self, and_true, true_and, true_or, if_true, if_false, ite_true, ite_false, reduceCtorEq, reduceIte]
      exact .inr (WV_frz rfl rfl rfl (by simp [mapC, lm]) (by rw [List.drop_zero]; exact (List.take_of_length_le (by simp [mapC, lm])).symm) (treeL_i _))
    · simp (config := { maxSteps := 1000000 }) +decide only [NoH, Old, OldL, nilQ, nilA, asgn, nz, RechL, ReY, isNew, stepO, XPost, postN, XOk, updN, updU, isEff, avalue, aeff, ASt.eval, ASt.put, ASt.set, ASt.new, Nat.reduceDiv, Nat.reduceAdd, Int.reduceToNat, absV, absC, scalar, alen, acap, conc, flats, live, blkOf, aload, rd, part?, afieldAddr, afield, aindexAddr, cellsOf, afill, places, abuild, optI, asliceV, asliceS, szOk, srcCells, aappend, acopy, astore, amakeSlice, abuildSlice, snapL, mapO, treeL, AVal.tree, AVal.flatT, isFlat, ares, isFz, afroz, afrozB, lookupA, lookupH, tops, if_true, if_false, reduceCtorEq, forall_const, ite_true, ite_false, implies_true, walkS, tabS, Tryz.results34]
      refine callK (den_ValidRadio r hb) (by first | exact .inl rfl | exact .inr rfl) ?_
      simp (config := { maxSteps := 1000000 }) +decide only [NoH, Old, OldL, nilQ, nilA, asgn, nz, RechL, ReY, isNew, stepO, XPost, postN, XOk, updN, updU, isEff, avalue, aeff, ASt.eval, ASt.put, ASt.set, ASt.new, Nat.reduceDiv, Nat.reduceAdd, Int.reduceToNat, absV, absC, scalar, alen, acap, conc, flats, live, blkOf, aload, rd, part?, afieldAddr, afield, aindexAddr, cellsOf, afill, places, abuild, optI, asliceV, asliceS, szOk, srcCells, aappend, acopy, astore, amakeSlice, abuildSlice, snapL, mapO, treeL, AVal.tree, AVal.flatT, isFlat, ares, isFz, afroz, afrozB, lookupA, lookupH, tops, if_true, if_false, reduceCtorEq, forall_const, ite_true, ite_false, implies_true, walkS, tabS, Tryz.results34, eq_true h]
      refine callK (den_RadioText h hb) (by first | exact .inl rfl | exact .inr rfl) ?_
      simp (config := { maxSteps := 1000000 }) +decide only [NoH, Old, OldL, nilQ, nilA, asgn, nz, RechL, ReY, isNew, stepO, XPost, postN, XOk, updN, updU, isEff, avalue, aeff, ASt.eval, ASt.put, ASt.set, ASt.new, Nat.reduceDiv, Nat.reduceAdd, Int.reduceToNat, absV, absC, scalar, alen, acap, conc, flats, live, blkOf, aload, rd, part?, afieldAddr, afield, aindexAddr, cellsOf, afill, places, abuild, optI, asliceV, asliceS, szOk, srcCells, aappend, acopy, astore, amakeSlice, abuildSlice, snapL, mapO, treeL, AVal.tree, AVal.flatT, isFlat, ares, isFz, afroz, afrozB, lookupA, lookupH, tops, if_true, if_false, reduceCtorEq, forall_const, ite_true, ite_false, implies_true, walkS, tabS, Tryz.results34, sem_neqT]
  have hltI : (k : Int) < (r.mn : Int) := by omega
  have wk : IntKind.i64.wrap ((k : Int) + 1) = ((k + 1 : Nat) : Int) := wrap64 (by omega) (by omega)
  have hr1 : k * 2 + 2 ≤ r.ms.length := by omega
  obtain ⟨b1, b2, _⟩ := h.ms k hlt
  have ct : (mapC AVal.t (mdTs r.ms r.mn))[k]? = some (.t (mdT r.ms k)) := by simp [mapC, mdTs, hlt]
  have htl : k < (mdTs r.ms r.mn).length := by omega
  have m29 := mdT_len h hlt
  have dc := den_Cut (mdT r.ms k) [47] (by omega)
  rw [cut_md] at dc
  have sn := mdK_snoc hr1
  simp (config := { maxSteps := 1000000 }) +decide only [NoH, Old, OldL, nilQ, nilA, asgn, nz, RechL, ReY, isNew, stepO, XPost, postN, XOk, updN, updU, isEff, avalue, aeff, ASt.eval, ASt.put, ASt.set, ASt.new, Nat.reduceDiv, Nat.reduceAdd, Int.reduceToNat, absV, absC, scalar, alen, acap, conc, flats, live, blkOf, aload, rd, part?, afieldAddr, afield, aindexAddr, cellsOf, afill, places, abuild, optI, asliceV, asliceS, szOk, srcCells, aappend, acopy, astore, amakeSlice, abuildSlice, snapL, mapO, treeL, AVal.tree, AVal.flatT, isFlat, ares, isFz, afroz, afrozB, lookupA, lookupH, tops, if_true, if_false, reduceCtorEq, forall_const, ite_true, ite_false, implies_true, walkS, tabS, Tryz.results34, eq_true hltI, hlt, htl, lt, ct]
  refine callK (dc) (by first | exact .inl rfl | exact .inr rfl) ?_
  simp (config := { maxSteps := 1000000 }) +decide only [NoH, Old, OldL, nilQ, nilA, asgn, nz, RechL, ReY, isNew, stepO, XPost, postN, XOk, updN, updU, isEff, avalue, aeff, ASt.eval, ASt.put, ASt.set, ASt.new, Nat.reduceDiv, Nat.reduceAdd, Int.reduceToNat, absV, absC, scalar, alen, acap, conc, flats, live, blkOf, aload, rd, part?, afieldAddr, afield, aindexAddr, cellsOf, afill, places, abuild, optI, asliceV, asliceS, szOk, srcCells, aappend, acopy, astore, amakeSlice, abuildSlice, snapL, mapO, treeL, AVal.tree, AVal.flatT, isFlat, ares, isFz, afroz, afrozB, lookupA, lookupH, tops, if_true, if_false, reduceCtorEq, forall_const, ite_true, ite_false, implies_true, walkS, tabS, Tryz.results34]
  refine callK (den_ReadDecimal (mN r.ms k) ⟨by omega, by omega⟩) (by first | exact .inl rfl | exact .inr rfl) ?_
  simp (config := { maxSteps := 1000000 }) +decide only [NoH, Old, OldL, nilQ, nilA, asgn, nz, RechL, ReY, isNew, stepO, XPost, postN, XOk, updN, updU, isEff, avalue, aeff, ASt.eval, ASt.put, ASt.set, ASt.new, Nat.reduceDiv, Nat.reduceAdd, Int.reduceToNat, absV, absC, scalar, alen, acap, conc, flats, live, blkOf, aload, rd, part?, afieldAddr, afield, aindexAddr, cellsOf, afill, places, abuild, optI, asliceV, asliceS, szOk, srcCells, aappend, acopy, astore, amakeSlice, abuildSlice, snapL, mapO, treeL, AVal.tree, AVal.flatT, isFlat, ares, isFz, afroz, afrozB, lookupA, lookupH, tops, if_true, if_false, reduceCtorEq, forall_const, ite_true, ite_false, implies_true, walkS, tabS, Tryz.results34]
  refine callK (den_ReadDecimal (mR r.ms k) ⟨by omega, by omega⟩) (by first | exact .inl rfl | exact .inr rfl) ?_
  have q1 : ∀ a b : AVal, lay (List.replicate 1 [AVal.flat (Value.int IntKind.i64 0), AVal.flat (Value.int IntKind.i64 0)]).flatten (0 * 2) [a, b] = [a, b] := fun _ _ => rfl
  have tk : (mapC AVal.i (mdK r.ms k)).take (k * 2) = mapC AVal.i (mdK r.ms k) := List.take_of_length_le (by omega)
  have tk2 : (mdK r.ms k).take (k * 2) = mdK r.ms k := List.take_of_length_le (by omega)
  have h16 : (k + 1) * 16 ≤ 140737488355328 := by omega
  simp (config := { maxSteps := 1000000 }) +decide only [NoH, Old, OldL, nilQ, nilA, asgn, nz, RechL, ReY, isNew, stepO, XPost, postN, XOk, updN, updU, isEff, avalue, aeff, ASt.eval, ASt.put, ASt.set, ASt.new, Nat.reduceDiv, Nat.reduceAdd, Int.reduceToNat, absV, absC, scalar, alen, acap, conc, flats, live, blkOf, aload, rd, part?, afieldAddr, afield, aindexAddr, cellsOf, afill, places, abuild, optI, asliceV, asliceS, szOk, srcCells, aappend, acopy, astore, amakeSlice, abuildSlice, snapL, mapO, treeL, AVal.tree, AVal.flatT, isFlat, ares, isFz, afroz, afrozB, lookupA, lookupH, tops, if_true, if_false, reduceCtorEq, forall_const, ite_true, ite_false, implies_true, walkS, tabS, Tryz.results34, q1, tk, tk2, lk, lkC, h16, sn, wk, List.length_cons, List.length_nil, Nat.reduceAdd]
  refine ⟨⟨(k + 1, G, G + 1), hlt⟩, ?_, by show r.mn - (k + 1) < r.mn - k; omega⟩
  refine weak_mk rfl (by first | exact Nat.le_refl _ | (simp only [mk_gen]; omega)) ?_ ?_ <;> simp +decide only [w_lookup_nil, w_lookup_cons, ch_ch, ch_lit, lit_ch, wkT, wkH, wkB, WVL, WV_refl', Int.natCast_zero, Int.natCast_add, Int.natCast_one, Nat.sub_self, Nat.sub_zero, List.replicate_zero, List.take_zero, List.nil_append, List.append_nil, fillC_zero, Nat.reduceDiv, Nat.reduceAdd, upd_bk, bk_at, getB_zero, getB_succ, modB_zero, modB_succ, rows_lit, repB_zero, repB_succ, List.length_cons, List.length_nil, upd_upd_same, upd_apply, mk_tmp, mk_heap, mk_gen, lookupA, lookupH, List.getD_cons_zero, List.getD_cons_succ, init_two, tops, Bool.true_and, and_self, and_true, true_and, true_or, if_true, if_false, ite_true, ite_false, reduceCtorEq, reduceIte]
theorem rdF_no {r : Rd} (h : RdOk r) : ∀ x ∈ rdF r, (32 : UInt8) ∉ x := by
  have num : ∀ n : Int, (32 : UInt8) ∉ Lib.itoa n := fun n hc => (numC_not (itoa_numC n 32 hc)).2.1 rfl
  have nm : (32 : UInt8) ∉ r.nm := fun hc => by
    obtain ⟨i, hi, e⟩ := List.getElem_of_mem hc
    have k := h.nm.2.2 i hi
    rw [e] at k
    have e32 : (((32 : UInt8).toNat : Nat) : Int) = 32 := rfl
    rcases k with k | k
    · unfold Lett at k; omega
    · unfold Digi at k; omega
  have js : (32 : UInt8) ∉ Lib.join (mdTs r.ms r.mn) [44] := fun hc => by
    rcases mem_join hc with e | ⟨x, hx, hc⟩
    · exact absurd e (by decide)
    · obtain ⟨k, _, rfl⟩ := List.mem_map.1 hx
      rcases mdT_chars _ _ 32 hc with e | e
      · exact absurd e (by decide)
      · exact (numC_not e).2.1 rfl
  intro x hx
  unfold rdF at hx
  simp only [List.mem_cons, List.not_mem_nil, or_false] at hx
  rcases hx with rfl | rfl | rfl | rfl | rfl | rfl
  · exact nm
  · exact num _
  · exact num _
  · exact num _
  · exact num _
  · exact js
end Go.Proofs.YtiaemddmkmfijaaGreatDoor
