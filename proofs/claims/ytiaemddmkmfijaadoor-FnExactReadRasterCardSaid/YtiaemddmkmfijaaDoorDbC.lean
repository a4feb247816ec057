/-
  OWN WORK: logarithms: the program's LogDb.
-/
import Derived.Test.YtiaemddmkmfijaaDoorDbB
namespace Go.Proofs.YtiaemddmkmfijaaDoor
open Go Go.Own Go.Proofs
set_option maxHeartbeats 4000000
set_option maxRecDepth 20000
set_option linter.unusedSimpArgs false
set_option linter.unusedVariables false
theorem nrm_eq (n : Nat) : n * 10 ^ (8 - dg10 n) / 10 ^ (dg10 n - 8) = nrm n := by
  unfold nrm
  split
  · rename_i h
    rw [show dg10 n - 8 = 0 by omega, Nat.pow_zero, Nat.div_one]
  · rename_i h
    rw [show 8 - dg10 n = 0 by omega, Nat.pow_zero, Nat.mul_one]
theorem itoa_size (n : Nat) : (ByteArray.mk (Lib.itoa (n : Int)).toArray).size = dg10 n + 1 := by
  have h := Lib.nDigits_pos n
  have e : (ByteArray.mk (Lib.itoa (n : Int)).toArray).size = (Lib.itoa (n : Int)).length := rfl
  rw [e, Lib.itoa_nonneg, Lib.decDigits_length]
  unfold dg10
  omega
theorem pw_small {r k : Nat} (hr : r < 19) (hk : k ≤ 8 - r) {n : Nat} (hn : n < 10 ^ (r + 1)) (hn2 : n < 9223372036854775808) : n * 10 ^ k < 9223372036854775808 := by
  by_cases h8 : r ≤ 8
  · have h1 : n * 10 ^ k ≤ n * 10 ^ (8 - r) := Nat.mul_le_mul_left _ (Nat.pow_le_pow_right (by omega) hk)
    have h2 : n * 10 ^ (8 - r) < 10 ^ (r + 1) * 10 ^ (8 - r) := Nat.mul_lt_mul_of_pos_right hn (Nat.pow_pos (by omega))
    have e : 10 ^ (r + 1) * 10 ^ (8 - r) = 1000000000 := by rw [← Nat.pow_add, show r + 1 + (8 - r) = 9 by omega]
    omega
  · have : k = 0 := by omega
    subst this
    simpa using hn2
theorem den_LogDb (n : Nat) (h1 : 1 ≤ n) (h2 : n < 9223372036854775808) : Den Tryd.prog 93 [.i n] (.i (lgd n)) := by
  refine den_of_awpG (ghs [] []) Tryd.func93 rfl (by kernel_rfl) (Nat.le_of_ble_eq_true rfl) (by simp only [treeL, AVal.tree, treeL_i, treeL_ints, treeL_u8, treeL_append, Bool.and_self, Bool.and_true, Bool.true_and]) (by first | rfl | simp only [treeL, AVal.tree, treeL_i, treeL_ints, treeL_u8, treeL_append, Bool.and_self, Bool.and_true, Bool.true_and]) mixed (by kernel_rfl) fun hl => ?_
  simp only [lensL, lens, lensL_i, lensL_mapC, maxI, and_true, true_and] at hl
  rw [Tryd.ntmps93]
  refine ex_start ?_
  have hn0 : ¬ (n : Int) < 1 := by omega
  have hsz := itoa_size n
  obtain ⟨hd1, hd2⟩ := dg10_in h1
  have hr : dg10 n < 19 := dg10_lt (k := 19) h1 (by omega)
  have hnr := nrm_in h1
  have hne := nrm_eq n
  have hps : ∀ k, k ≤ 8 - dg10 n → n * 10 ^ k < 9223372036854775808 := fun k hk => pw_small hr hk hd2 h2
  have hlg : lgd n = (lit 4 (nrm n, dg10 n)).2 := rfl
  rw [hlg]
  generalize dg10 n = r at *
  generalize nrm n = m at *
  have w0 : IntKind.i64.wrap (((r + 1 : Nat) : Int) - 1) = (r : Int) := (wrap64 (by omega) (by omega)).trans (by omega)
  have w1 : IntKind.i64.wrap (8 - (r : Int)) = 8 - (r : Int) := wrap64 (by omega) (by omega)
  have w2 : IntKind.i64.wrap ((r : Int) - 8) = (r : Int) - 8 := wrap64 (by omega) (by omega)
  have m1 : max (8 - (r : Int)) 0 = ((8 - r : Nat) : Int) := by omega
  have m2 : max ((r : Int) - 8) 0 = ((r - 8 : Nat) : Int) := by omega
  simp (config := { maxSteps := 1000000 }) +decide only [NoH, Old, OldL, nilQ, nilA, asgn, nz, RechL, ReY, isNew, stepO, XPost, postN, XOk, updN, updU, isEff, avalue, aeff, ASt.eval, ASt.put, ASt.set, ASt.new, Nat.reduceDiv, Nat.reduceAdd, Int.reduceToNat, absV, absC, scalar, alen, acap, conc, flats, live, blkOf, aload, rd, part?, afieldAddr, afield, aindexAddr, cellsOf, afill, places, abuild, optI, asliceV, asliceS, szOk, srcCells, aappend, acopy, astore, amakeSlice, abuildSlice, snapL, mapO, treeL, AVal.tree, AVal.flatT, isFlat, ares, isFz, afroz, afrozB, lookupA, lookupH, tops, if_true, if_false, reduceCtorEq, forall_const, ite_true, ite_false, implies_true, walkS, tabS, Tryd.results93, eq_false hn0]
  refine callK (den_Decimal n (by omega) (by omega)) (by first | exact .inl rfl | exact .inr rfl) ?_
  simp (config := { maxSteps := 1000000 }) +decide only [NoH, Old, OldL, nilQ, nilA, asgn, nz, RechL, ReY, isNew, stepO, XPost, postN, XOk, updN, updU, isEff, avalue, aeff, ASt.eval, ASt.put, ASt.set, ASt.new, Nat.reduceDiv, Nat.reduceAdd, Int.reduceToNat, absV, absC, scalar, alen, acap, conc, flats, live, blkOf, aload, rd, part?, afieldAddr, afield, aindexAddr, cellsOf, afill, places, abuild, optI, asliceV, asliceS, szOk, srcCells, aappend, acopy, astore, amakeSlice, abuildSlice, snapL, mapO, treeL, AVal.tree, AVal.flatT, isFlat, ares, isFz, afroz, afrozB, lookupA, lookupH, tops, if_true, if_false, reduceCtorEq, forall_const, ite_true, ite_false, implies_true, walkS, tabS, Tryd.results93, hsz, w0, w1, m1, sem_mx]
  refine ex_loop (fun k : {k : Nat // k ≤ 8 - r} => mkG (ghs [] []) [(3, .i r), (4, .i ((n * 10 ^ k.1 : Nat) : Int)), (17, .i ((8 - r : Nat) : Int)), (18, .i k.1)] [] 0 55) (fun k => 8 - r - k.1) ⟨0, Nat.zero_le _⟩ ?_ ?_
  · have e0 : n * 10 ^ 0 = n := by simp
    refine weak_mk rfl (by first | exact Nat.le_refl _ | (simp only [mk_gen]; omega)) ?_ ?_ <;> simp +decide only [w_lookup_nil, w_lookup_cons, ch_ch, ch_lit, lit_ch, wkT, wkH, wkB, WVL, WV_refl', Int.natCast_zero, Int.natCast_add, Int.natCast_one, Nat.sub_self, Nat.sub_zero, List.replicate_zero, List.take_zero, List.nil_append, List.append_nil, fillC_zero, Nat.reduceDiv, Nat.reduceAdd, upd_bk, bk_at, getB_zero, getB_succ, modB_zero, modB_succ, rows_lit, repB_zero, repB_succ, List.length_cons, List.length_nil, upd_upd_same, upd_apply, mk_tmp, mk_heap, mk_gen, lookupA, lookupH, List.getD_cons_zero, List.getD_cons_succ, init_two, tops, Bool.true_and, and_self, and_true, true_and, true_or, if_true, if_false, ite_true, ite_false, reduceCtorEq, reduceIte, e0]
  rintro ⟨k, hk⟩
  have hk' : k ≤ 8 - r := hk
  by_cases klt : k < 8 - r
  · have kI : (k : Int) < ((8 - r : Nat) : Int) := by omega
    have wk : IntKind.i64.wrap ((k : Int) + 1) = ((k + 1 : Nat) : Int) := wrap64 (by omega) (by omega)
    have hp := hps (k + 1) klt
    have ep : n * 10 ^ (k + 1) = n * 10 ^ k * 10 := by rw [Nat.pow_succ, Nat.mul_assoc]
    have wx : IntKind.i64.wrap (((n * 10 ^ k : Nat) : Int) * 10) = ((n * 10 ^ (k + 1) : Nat) : Int) := by
      rw [ep] at hp ⊢
      exact (wrap64 (by omega) (by omega)).trans (by omega)
    simp (config := { maxSteps := 1000000 }) +decide only [NoH, Old, OldL, nilQ, nilA, asgn, nz, RechL, ReY, isNew, stepO, XPost, postN, XOk, updN, updU, isEff, avalue, aeff, ASt.eval, ASt.put, ASt.set, ASt.new, Nat.reduceDiv, Nat.reduceAdd, Int.reduceToNat, absV, absC, scalar, alen, acap, conc, flats, live, blkOf, aload, rd, part?, afieldAddr, afield, aindexAddr, cellsOf, afill, places, abuild, optI, asliceV, asliceS, szOk, srcCells, aappend, acopy, astore, amakeSlice, abuildSlice, snapL, mapO, treeL, AVal.tree, AVal.flatT, isFlat, ares, isFz, afroz, afrozB, lookupA, lookupH, tops, if_true, if_false, reduceCtorEq, forall_const, ite_true, ite_false, implies_true, walkS, tabS, Tryd.results93, eq_true kI, wk, wx]
    refine ⟨⟨k + 1, klt⟩, ?_, by show 8 - r - (k + 1) < 8 - r - k; omega⟩
    refine weak_mk rfl (by first | exact Nat.le_refl _ | (simp only [mk_gen]; omega)) ?_ ?_ <;> simp +decide only [w_lookup_nil, w_lookup_cons, ch_ch, ch_lit, lit_ch, wkT, wkH, wkB, WVL, WV_refl', Int.natCast_zero, Int.natCast_add, Int.natCast_one, Nat.sub_self, Nat.sub_zero, List.replicate_zero, List.take_zero, List.nil_append, List.append_nil, fillC_zero, Nat.reduceDiv, Nat.reduceAdd, upd_bk, bk_at, getB_zero, getB_succ, modB_zero, modB_succ, rows_lit, repB_zero, repB_succ, List.length_cons, List.length_nil, upd_upd_same, upd_apply, mk_tmp, mk_heap, mk_gen, lookupA, lookupH, List.getD_cons_zero, List.getD_cons_succ, init_two, tops, Bool.true_and, and_self, and_true, true_and, true_or, if_true, if_false, ite_true, ite_false, reduceCtorEq, reduceIte]
  have ek : k = 8 - r := by omega
  subst ek
  have kI : ¬ ((8 - r : Nat) : Int) < ((8 - r : Nat) : Int) := by omega
  have hq := hps (8 - r) (Nat.le_refl _)
  generalize n * 10 ^ (8 - r) = q at *
  simp (config := { maxSteps := 1000000 }) +decide only [NoH, Old, OldL, nilQ, nilA, asgn, nz, RechL, ReY, isNew, stepO, XPost, postN, XOk, updN, updU, isEff, avalue, aeff, ASt.eval, ASt.put, ASt.set, ASt.new, Nat.reduceDiv, Nat.reduceAdd, Int.reduceToNat, absV, absC, scalar, alen, acap, conc, flats, live, blkOf, aload, rd, part?, afieldAddr, afield, aindexAddr, cellsOf, afill, places, abuild, optI, asliceV, asliceS, szOk, srcCells, aappend, acopy, astore, amakeSlice, abuildSlice, snapL, mapO, treeL, AVal.tree, AVal.flatT, isFlat, ares, isFz, afroz, afrozB, lookupA, lookupH, tops, if_true, if_false, reduceCtorEq, forall_const, ite_true, ite_false, implies_true, walkS, tabS, Tryd.results93, eq_false kI, w2, m2, sem_mx]
  refine ex_loop (fun k : {k : Nat // k ≤ r - 8} => mkG (ghs [] []) [(3, .i r), (4, .i ((q / 10 ^ k.1 : Nat) : Int)), (25, .i ((r - 8 : Nat) : Int)), (26, .i k.1)] [] 0 55) (fun k => r - 8 - k.1) ⟨0, Nat.zero_le _⟩ ?_ ?_
  · have e0 : q / 10 ^ 0 = q := by simp
    refine weak_mk rfl (by first | exact Nat.le_refl _ | (simp only [mk_gen]; omega)) ?_ ?_ <;> simp +decide only [w_lookup_nil, w_lookup_cons, ch_ch, ch_lit, lit_ch, wkT, wkH, wkB, WVL, WV_refl', Int.natCast_zero, Int.natCast_add, Int.natCast_one, Nat.sub_self, Nat.sub_zero, List.replicate_zero, List.take_zero, List.nil_append, List.append_nil, fillC_zero, Nat.reduceDiv, Nat.reduceAdd, upd_bk, bk_at, getB_zero, getB_succ, modB_zero, modB_succ, rows_lit, repB_zero, repB_succ, List.length_cons, List.length_nil, upd_upd_same, upd_apply, mk_tmp, mk_heap, mk_gen, lookupA, lookupH, List.getD_cons_zero, List.getD_cons_succ, init_two, tops, Bool.true_and, and_self, and_true, true_and, true_or, if_true, if_false, ite_true, ite_false, reduceCtorEq, reduceIte, e0]
  rintro ⟨k, hk2⟩
  have hk2' : k ≤ r - 8 := hk2
  by_cases klt2 : k < r - 8
  · have kI2 : (k : Int) < ((r - 8 : Nat) : Int) := by omega
    have wk : IntKind.i64.wrap ((k : Int) + 1) = ((k + 1 : Nat) : Int) := wrap64 (by omega) (by omega)
    have ep : q / 10 ^ (k + 1) = q / 10 ^ k / 10 := by rw [Nat.pow_succ, Nat.div_div_eq_div_mul]
    have hqk : q / 10 ^ k ≤ q := Nat.div_le_self _ _
    have wx : IntKind.i64.wrap (((q / 10 ^ k : Nat) : Int).tdiv 10) = ((q / 10 ^ (k + 1) : Nat) : Int) := by
      rw [ep, Int.tdiv_eq_ediv_of_nonneg (Int.natCast_nonneg _)]
      generalize q / 10 ^ k = y at *
      exact (wrap64 (by omega) (by omega)).trans (by omega)
    simp (config := { maxSteps := 1000000 }) +decide only [NoH, Old, OldL, nilQ, nilA, asgn, nz, RechL, ReY, isNew, stepO, XPost, postN, XOk, updN, updU, isEff, avalue, aeff, ASt.eval, ASt.put, ASt.set, ASt.new, Nat.reduceDiv, Nat.reduceAdd, Int.reduceToNat, absV, absC, scalar, alen, acap, conc, flats, live, blkOf, aload, rd, part?, afieldAddr, afield, aindexAddr, cellsOf, afill, places, abuild, optI, asliceV, asliceS, szOk, srcCells, aappend, acopy, astore, amakeSlice, abuildSlice, snapL, mapO, treeL, AVal.tree, AVal.flatT, isFlat, ares, isFz, afroz, afrozB, lookupA, lookupH, tops, if_true, if_false, reduceCtorEq, forall_const, ite_true, ite_false, implies_true, walkS, tabS, Tryd.results93, eq_true kI2, wk, wx, sem_quo]
    refine ⟨⟨k + 1, klt2⟩, ?_, by show r - 8 - (k + 1) < r - 8 - k; omega⟩
    refine weak_mk rfl (by first | exact Nat.le_refl _ | (simp only [mk_gen]; omega)) ?_ ?_ <;> simp +decide only [w_lookup_nil, w_lookup_cons, ch_ch, ch_lit, lit_ch, wkT, wkH, wkB, WVL, WV_refl', Int.natCast_zero, Int.natCast_add, Int.natCast_one, Nat.sub_self, Nat.sub_zero, List.replicate_zero, List.take_zero, List.nil_append, List.append_nil, fillC_zero, Nat.reduceDiv, Nat.reduceAdd, upd_bk, bk_at, getB_zero, getB_succ, modB_zero, modB_succ, rows_lit, repB_zero, repB_succ, List.length_cons, List.length_nil, upd_upd_same, upd_apply, mk_tmp, mk_heap, mk_gen, lookupA, lookupH, List.getD_cons_zero, List.getD_cons_succ, init_two, tops, Bool.true_and, and_self, and_true, true_and, true_or, if_true, if_false, ite_true, ite_false, reduceCtorEq, reduceIte]
  have ek2 : k = r - 8 := by omega
  subst ek2
  have kI2 : ¬ ((r - 8 : Nat) : Int) < ((r - 8 : Nat) : Int) := by omega
  simp (config := { maxSteps := 1000000 }) +decide only [NoH, Old, OldL, nilQ, nilA, asgn, nz, RechL, ReY, isNew, stepO, XPost, postN, XOk, updN, updU, isEff, avalue, aeff, ASt.eval, ASt.put, ASt.set, ASt.new, Nat.reduceDiv, Nat.reduceAdd, Int.reduceToNat, absV, absC, scalar, alen, acap, conc, flats, live, blkOf, aload, rd, part?, afieldAddr, afield, aindexAddr, cellsOf, afill, places, abuild, optI, asliceV, asliceS, szOk, srcCells, aappend, acopy, astore, amakeSlice, abuildSlice, snapL, mapO, treeL, AVal.tree, AVal.flatT, isFlat, ares, isFz, afroz, afrozB, lookupA, lookupH, tops, if_true, if_false, reduceCtorEq, forall_const, ite_true, ite_false, implies_true, walkS, tabS, Tryd.results93, eq_false kI2, hne]
  refine ex_loop (fun p : {p : Nat × Nat // p.1 ≤ 4} => mkG (ghs [] []) [(3, .i (lit p.1.1 (m, r)).2), (4, .i (lit p.1.1 (m, r)).1), (31, .i p.1.1)] [] p.1.2 55) (fun p => 4 - p.1.1) ⟨(0, 0), Nat.zero_le _⟩ ?_ ?_
  · have e0 : lit 0 (m, r) = (m, r) := rfl
    refine weak_mk rfl (by first | exact Nat.le_refl _ | (simp only [mk_gen]; omega)) ?_ ?_ <;> simp +decide only [w_lookup_nil, w_lookup_cons, ch_ch, ch_lit, lit_ch, wkT, wkH, wkB, WVL, WV_refl', Int.natCast_zero, Int.natCast_add, Int.natCast_one, Nat.sub_self, Nat.sub_zero, List.replicate_zero, List.take_zero, List.nil_append, List.append_nil, fillC_zero, Nat.reduceDiv, Nat.reduceAdd, upd_bk, bk_at, getB_zero, getB_succ, modB_zero, modB_succ, rows_lit, repB_zero, repB_succ, List.length_cons, List.length_nil, upd_upd_same, upd_apply, mk_tmp, mk_heap, mk_gen, lookupA, lookupH, List.getD_cons_zero, List.getD_cons_succ, init_two, tops, Bool.true_and, and_self, and_true, true_and, true_or, if_true, if_false, ite_true, ite_false, reduceCtorEq, reduceIte, e0]
  rintro ⟨⟨k, G⟩, hk3⟩
  have hk3' : k ≤ 4 := hk3
  by_cases klt3 : k < 4
  case neg =>
    have ek3 : k = 4 := by omega
    subst ek3
    simp (config := { maxSteps := 1000000 }) +decide only [NoH, Old, OldL, nilQ, nilA, asgn, nz, RechL, ReY, isNew, stepO, XPost, postN, XOk, updN, updU, isEff, avalue, aeff, ASt.eval, ASt.put, ASt.set, ASt.new, Nat.reduceDiv, Nat.reduceAdd, Int.reduceToNat, absV, absC, scalar, alen, acap, conc, flats, live, blkOf, aload, rd, part?, afieldAddr, afield, aindexAddr, cellsOf, afill, places, abuild, optI, asliceV, asliceS, szOk, srcCells, aappend, acopy, astore, amakeSlice, abuildSlice, snapL, mapO, treeL, AVal.tree, AVal.flatT, isFlat, ares, isFz, afroz, afrozB, lookupA, lookupH, tops, if_true, if_false, reduceCtorEq, forall_const, ite_true, ite_false, implies_true, walkS, tabS, Tryd.results93]
  have kI3 : (k : Int) < 4 := by omega
  have wk : IntKind.i64.wrap ((k : Int) + 1) = ((k + 1 : Nat) : Int) := wrap64 (by omega) (by omega)
  have hin := lit_in k (x := (m, r)) hnr
  have hle := lit_le k (x := (m, r)) hnr
  have e10 : 10 ^ k * (r + 1) ≤ 10 ^ 4 * 20 := Nat.mul_le_mul (Nat.pow_le_pow_right (by omega) hk3') (by omega)
  have es : lit (k + 1) (m, r) = lstep (lit k (m, r)) := rfl
  obtain ⟨⟨x, y⟩, hxy⟩ : ∃ p, lit k (m, r) = p := ⟨_, rfl⟩
  rw [hxy] at hin hle es
  simp only at hin hle
  have hin' : Nm x := hin
  obtain ⟨a, ha⟩ : ∃ a, tm (x, 0) (x, 0) = a := ⟨_, rfl⟩
  have a1 := tm_in (x := (x, 0)) (y := (x, 0)) hin' hin'
  have t1 := den_times (x, 0) (x, 0) hin' hin' (Nat.zero_le _) (Nat.zero_le _)
  rw [ha] at a1 t1
  obtain ⟨b, hb⟩ : ∃ b, tm a a = b := ⟨_, rfl⟩
  have b1 := tm_in a1.1 a1.1
  have t2 := den_times a a a1.1 a1.1 (by have := a1.2.2.1; simp only at this; omega) (by have := a1.2.2.1; simp only at this; omega)
  rw [hb] at b1 t2
  obtain ⟨c, hc⟩ : ∃ c, tm b (x, 0) = c := ⟨_, rfl⟩
  have c1 := tm_in (x := b) (y := (x, 0)) b1.1 hin'
  have t3 := den_times b (x, 0) b1.1 hin' (by have := a1.2.2.1; have := b1.2.2.1; simp only at *; omega) (Nat.zero_le _)
  rw [hc] at c1 t3
  obtain ⟨d, hd⟩ : ∃ d, tm c c = d := ⟨_, rfl⟩
  have d1 := tm_in c1.1 c1.1
  have t4 := den_times c c c1.1 c1.1 (by have := a1.2.2.1; have := b1.2.2.1; have := c1.2.2.1; simp only at *; omega) (by have := a1.2.2.1; have := b1.2.2.1; have := c1.2.2.1; simp only at *; omega)
  rw [hd] at d1 t4
  have ep : p10 x = d := by unfold p10; rw [ha, hb, hc, hd]
  have es2 : lit (k + 1) (m, r) = (d.1, 10 * y + d.2) := by rw [es]; unfold lstep; simp only [ep]
  have dle := (p10_in hin').2
  rw [ep] at dle
  have w5 : IntKind.i64.wrap (10 * (y : Int)) = ((10 * y : Nat) : Int) := (wrap64 (by omega) (by omega)).trans (by omega)
  have w6 : IntKind.i64.wrap (((10 * y : Nat) : Int) + (d.2 : Int)) = ((10 * y + d.2 : Nat) : Int) := wrap64 (by omega) (by omega)
  simp (config := { maxSteps := 1000000 }) +decide only [NoH, Old, OldL, nilQ, nilA, asgn, nz, RechL, ReY, isNew, stepO, XPost, postN, XOk, updN, updU, isEff, avalue, aeff, ASt.eval, ASt.put, ASt.set, ASt.new, Nat.reduceDiv, Nat.reduceAdd, Int.reduceToNat, absV, absC, scalar, alen, acap, conc, flats, live, blkOf, aload, rd, part?, afieldAddr, afield, aindexAddr, cellsOf, afill, places, abuild, optI, asliceV, asliceS, szOk, srcCells, aappend, acopy, astore, amakeSlice, abuildSlice, snapL, mapO, treeL, AVal.tree, AVal.flatT, isFlat, ares, isFz, afroz, afrozB, lookupA, lookupH, tops, if_true, if_false, reduceCtorEq, forall_const, ite_true, ite_false, implies_true, walkS, tabS, Tryd.results93, eq_true kI3, hxy]
  refine callK (t1) (by first | exact .inl rfl | exact .inr rfl) ?_
  simp (config := { maxSteps := 1000000 }) +decide only [NoH, Old, OldL, nilQ, nilA, asgn, nz, RechL, ReY, isNew, stepO, XPost, postN, XOk, updN, updU, isEff, avalue, aeff, ASt.eval, ASt.put, ASt.set, ASt.new, Nat.reduceDiv, Nat.reduceAdd, Int.reduceToNat, absV, absC, scalar, alen, acap, conc, flats, live, blkOf, aload, rd, part?, afieldAddr, afield, aindexAddr, cellsOf, afill, places, abuild, optI, asliceV, asliceS, szOk, srcCells, aappend, acopy, astore, amakeSlice, abuildSlice, snapL, mapO, treeL, AVal.tree, AVal.flatT, isFlat, ares, isFz, afroz, afrozB, lookupA, lookupH, tops, if_true, if_false, reduceCtorEq, forall_const, ite_true, ite_false, implies_true, walkS, tabS, Tryd.results93]
  refine callK (t2) (by first | exact .inl rfl | exact .inr rfl) ?_
  simp (config := { maxSteps := 1000000 }) +decide only [NoH, Old, OldL, nilQ, nilA, asgn, nz, RechL, ReY, isNew, stepO, XPost, postN, XOk, updN, updU, isEff, avalue, aeff, ASt.eval, ASt.put, ASt.set, ASt.new, Nat.reduceDiv, Nat.reduceAdd, Int.reduceToNat, absV, absC, scalar, alen, acap, conc, flats, live, blkOf, aload, rd, part?, afieldAddr, afield, aindexAddr, cellsOf, afill, places, abuild, optI, asliceV, asliceS, szOk, srcCells, aappend, acopy, astore, amakeSlice, abuildSlice, snapL, mapO, treeL, AVal.tree, AVal.flatT, isFlat, ares, isFz, afroz, afrozB, lookupA, lookupH, tops, if_true, if_false, reduceCtorEq, forall_const, ite_true, ite_false, implies_true, walkS, tabS, Tryd.results93]
  refine callK (t3) (by first | exact .inl rfl | exact .inr rfl) ?_
  simp (config := { maxSteps := 1000000 }) +decide only [NoH, Old, OldL, nilQ, nilA, asgn, nz, RechL, ReY, isNew, stepO, XPost, postN, XOk, updN, updU, isEff, avalue, aeff, ASt.eval, ASt.put, ASt.set, ASt.new, Nat.reduceDiv, Nat.reduceAdd, Int.reduceToNat, absV, absC, scalar, alen, acap, conc, flats, live, blkOf, aload, rd, part?, afieldAddr, afield, aindexAddr, cellsOf, afill, places, abuild, optI, asliceV, asliceS, szOk, srcCells, aappend, acopy, astore, amakeSlice, abuildSlice, snapL, mapO, treeL, AVal.tree, AVal.flatT, isFlat, ares, isFz, afroz, afrozB, lookupA, lookupH, tops, if_true, if_false, reduceCtorEq, forall_const, ite_true, ite_false, implies_true, walkS, tabS, Tryd.results93]
  refine callK (t4) (by first | exact .inl rfl | exact .inr rfl) ?_
  simp (config := { maxSteps := 1000000 }) +decide only [NoH, Old, OldL, nilQ, nilA, asgn, nz, RechL, ReY, isNew, stepO, XPost, postN, XOk, updN, updU, isEff, avalue, aeff, ASt.eval, ASt.put, ASt.set, ASt.new, Nat.reduceDiv, Nat.reduceAdd, Int.reduceToNat, absV, absC, scalar, alen, acap, conc, flats, live, blkOf, aload, rd, part?, afieldAddr, afield, aindexAddr, cellsOf, afill, places, abuild, optI, asliceV, asliceS, szOk, srcCells, aappend, acopy, astore, amakeSlice, abuildSlice, snapL, mapO, treeL, AVal.tree, AVal.flatT, isFlat, ares, isFz, afroz, afrozB, lookupA, lookupH, tops, if_true, if_false, reduceCtorEq, forall_const, ite_true, ite_false, implies_true, walkS, tabS, Tryd.results93, w5, w6, wk]
  refine ⟨⟨(k + 1, G + 3), klt3⟩, ?_, by show 4 - (k + 1) < 4 - k; omega⟩
  refine weak_mk rfl (by first | exact Nat.le_refl _ | (simp only [mk_gen]; omega)) ?_ ?_ <;> simp +decide only [w_lookup_nil, w_lookup_cons, ch_ch, ch_lit, lit_ch, wkT, wkH, wkB, WVL, WV_refl', Int.natCast_zero, Int.natCast_add, Int.natCast_one, Nat.sub_self, Nat.sub_zero, List.replicate_zero, List.take_zero, List.nil_append, List.append_nil, fillC_zero, Nat.reduceDiv, Nat.reduceAdd, upd_bk, bk_at, getB_zero, getB_succ, modB_zero, modB_succ, rows_lit, repB_zero, repB_succ, List.length_cons, List.length_nil, upd_upd_same, upd_apply, mk_tmp, mk_heap, mk_gen, lookupA, lookupH, List.getD_cons_zero, List.getD_cons_succ, init_two, tops, Bool.true_and, and_self, and_true, true_and, true_or, if_true, if_false, ite_true, ite_false, reduceCtorEq, reduceIte, es2]
end Go.Proofs.YtiaemddmkmfijaaDoor
