/-
  OWN WORK: the order by constraints; channels given greedily.
-/
import Derived.Test.YtkmhoebopfgpdaaGrD
import Derived.Test.YtkmhoebopfgpdaaGrB
import Derived.Test.YtkmhoebopfgpdaaLam
namespace Go.Proofs.Ytkmhoebopfgpdaa
open Go Go.Own Go.Proofs
set_option maxHeartbeats 4000000
set_option maxRecDepth 20000
set_option linter.unusedSimpArgs false
set_option linter.unusedVariables false
set_option linter.unusedSectionVars false
theorem den_Mul (x y : Nat) (hx : x < 18446744073709551616) (hy : y < 18446744073709551616) (h : x * y < 18446744073709551616) : Den Try.prog 105 [.u64 x, .u64 y] (.tup [.u64 0, .u64 ((x * y : Nat) : Int)]) := by
  refine ⟨⟨_, Try.func105, by kernel_rfl, by kernel_rfl⟩, rfl, fun w vs ok hok hg hr => ?_⟩
  obtain ⟨v, r, rfl, hv, v2, r2, rfl, hv2, rfl⟩ := hr
  have e1 : v = .int .u64 x := hv.2
  have e2 : v2 = .int .u64 y := hv2.2
  subst e1 e2
  refine Calls.mono (Any.bits_Mul Try.mul x y hx hy w) ?_
  rw [Nat.div_eq_of_lt h, Nat.mod_eq_of_lt h]
  rintro e w' ⟨rfl, rfl⟩
  exact ⟨_, rfl, ⟨_, rfl, _, _, rfl, ⟨rfl, rfl⟩, _, _, rfl, ⟨rfl, rfl⟩, rfl⟩, Go.RowKit.Below.refl _ _⟩
/-- a row that is filled from its head with one number -/
def rpC (v : Int) (n t : Nat) : List Int := List.replicate t v ++ List.replicate (n - t) 0
theorem rpC_len {v : Int} {n t : Nat} (h : t ≤ n) : (rpC v n t).length = n := by simp [rpC]; omega
theorem rpC_0 (v : Int) (n : Nat) : rpC v n 0 = List.replicate n 0 := by simp [rpC]
theorem rpC_n (v : Int) (n : Nat) : rpC v n n = List.replicate n v := by simp [rpC]
theorem rpC_put {v : Int} {n t m : Nat} (h : t + m ≤ n) : lay (mapC AVal.i (rpC v n t)) t (mapC AVal.i (List.replicate m v)) = mapC AVal.i (rpC v n (t + m)) := by
  unfold lay mapC rpC
  rw [← List.map_take, ← List.map_drop, ← List.map_append, ← List.map_append, List.length_map, List.length_replicate]
  congr 1
  rw [List.take_left' (by simp), List.drop_append, List.drop_of_length_le (by simp <;> omega), List.nil_append, List.length_replicate, show t + m - t = m by omega, List.drop_replicate, show n - t - m = n - (t + m) by omega, List.replicate_append_replicate]
theorem rpC_src {v : Int} {n t m : Nat} (h : m ≤ t) : List.take m (List.take t (rpC v n t)) = List.replicate m v := by
  unfold rpC
  rw [List.take_take, Nat.min_eq_left h, List.take_append_of_le_length (by simp <;> omega), List.take_replicate, Nat.min_eq_left h]
theorem wrapU0 {n : Int} (h0 : 0 ≤ n) (h1 : n ≤ 9223372036854775807) : IntKind.u64.wrap n = n := by
  simp [IntKind.wrap, IntKind.bits, IntKind.signed]
  omega
theorem denx_Repeat (v : Int) (n : Nat) (h1 : 1 ≤ n) (h2 : n ≤ 1000000) : DenX Try.prog 83 [.v (ints [v]), xi n] [.v (ints [v]), xi n] (xints (List.replicate n v)) := by
  refine denx_of_awp Try.func83 rfl (by kernel_rfl) (Nat.le_of_ble_eq_true rfl) (by simp +decide only [w_embA_nil, w_embA_cons, w_emb_v, w_emb_ol, w_emb_op, w_emb_agg, w_emb_tup, w_embL_nil, w_embL_cons, embL_i, List.map_cons, List.map_nil, List.nil_append, List.append_nil, List.cons_append, List.nodup_cons, List.nodup_nil, List.mem_cons, List.mem_nil_iff, List.not_mem_nil, ch_ch, ch_lit, lit_ch, Nat.reduceAdd]) mixed (by kernel_rfl) fun hl => ?_
  simp only [xlensL, xlens, lensL, lens, lensL_i, lensL_mapC, xlensL_i, maxI, and_true, true_and] at hl
  rw [Try.ntmps83]
  refine ex_start ?_
  have c0 : ¬ (n : Int) < 0 := by omega
  have wu : IntKind.u64.wrap (n : Int) = (n : Int) := wrapU0 (by omega) (by omega)
  have w1 : IntKind.u64.wrap (1 : Int) = 1 := wrapU0 (by omega) (by omega)
  have wn : IntKind.i64.wrap (n : Int) = (n : Int) := wrap64 (by omega) (by omega)
  have cv1 : ∀ a : Int, semS Try.prog (convert 3 105 (.int .i64 a)) = some (.flat (.int .u64 (IntKind.u64.wrap a))) := fun a => by rfl
  have cv2 : ∀ a : Int, semS Try.prog (convert 105 3 (.int .u64 a)) = some (.flat (.int .i64 (IntKind.i64.wrap a))) := fun a => by rfl
  have dm : Den Try.prog 105 [.u64 1, .u64 n] (.tup [.u64 0, .u64 n]) := by
    have := den_Mul 1 n (by omega) (by omega) (by omega)
    rw [Nat.one_mul] at this
    exact this
  have c1 : ¬ (9223372036854775807 : Int) < (n : Int) := by omega
  have h8 : (n : Int) * ((8 : Nat) : Int) ≤ 281474976710656 := by omega
  have h63 : (n : Int) ≤ 9223372036854775807 := by omega
  have hn0 : (0 : Int) ≤ (n : Int) := by omega
  have m1 : min 1 n = 1 := by omega
  have l1 : ([v] : List Int).length = 1 := rfl
  have e1 : lay (mapC AVal.i (List.replicate n 0)) 0 (mapC AVal.i [v]) = mapC AVal.i (rpC v n 1) := by
    have := rpC_put (v := v) (n := n) (t := 0) (m := 1) (by omega)
    rw [rpC_0, Nat.zero_add] at this
    exact this
  simp (config := { maxSteps := 1000000 }) +decide only [NoH, Old, OldL, nilQ, nilA, asgn, nz, RechL, ReY, isNew, stepO, XPost, postN, XOk, updN, updU, isEff, avalue, aeff, ASt.eval, ASt.put, ASt.set, ASt.new, Nat.reduceDiv, Nat.reduceAdd, Int.reduceToNat, absV, absC, scalar, alen, acap, conc, flats, live, blkOf, aload, rd, part?, afieldAddr, afield, aindexAddr, cellsOf, afill, places, abuild, optI, asliceV, asliceS, szOk, srcCells, aappend, acopy, aclear, astore, amakeSlice, abuildSlice, snapL, mapO, treeL, AVal.tree, AVal.flatT, isFlat, ares, isFz, afroz, afrozB, lookupA, lookupH, tops, if_true, if_false, reduceCtorEq, forall_const, ite_true, ite_false, implies_true, walkS, tabS, Try.results83, eq_false c0, cv1, wu, w1]
  refine callK (dm) (by first | exact .inl rfl | exact .inr rfl) ?_
  simp (config := { maxSteps := 1000000 }) +decide only [NoH, Old, OldL, nilQ, nilA, asgn, nz, RechL, ReY, isNew, stepO, XPost, postN, XOk, updN, updU, isEff, avalue, aeff, ASt.eval, ASt.put, ASt.set, ASt.new, Nat.reduceDiv, Nat.reduceAdd, Int.reduceToNat, absV, absC, scalar, alen, acap, conc, flats, live, blkOf, aload, rd, part?, afieldAddr, afield, aindexAddr, cellsOf, afill, places, abuild, optI, asliceV, asliceS, szOk, srcCells, aappend, acopy, aclear, astore, amakeSlice, abuildSlice, snapL, mapO, treeL, AVal.tree, AVal.flatT, isFlat, ares, isFz, afroz, afrozB, lookupA, lookupH, tops, if_true, if_false, reduceCtorEq, forall_const, ite_true, ite_false, implies_true, walkS, tabS, Try.results83, eq_false c1, cv2, wn, eq_true h8, eq_true h63, hn0, flatten1, rep_i, m1, List.length_replicate]
  refine ex_loop (fun t : {t : Nat // 1 ≤ t ∧ t ≤ n} => mk [(7, .own 30 1 0 n), (8, .i t.1)] [(30, ⟨1, 1, mapC AVal.i (rpC v n t.1)⟩)] 2 48) (fun t => n - t.1) ⟨1, by omega, h1⟩ ?_ ?_
  · refine weak_mk rfl (by first | exact Nat.le_refl _ | (simp only [mk_gen]; omega)) ?_ ?_ <;> simp +decide only [w_lookup_nil, w_lookup_cons, ch_ch, ch_lit, lit_ch, wkT, wkH, wkB, WVL, WV_refl', Int.natCast_zero, Int.natCast_add, Int.natCast_one, Nat.sub_self, Nat.sub_zero, List.replicate_zero, List.take_zero, List.nil_append, List.append_nil, fillC_zero, Nat.reduceDiv, Nat.reduceAdd, upd_bk, bk_at, getB_zero, getB_succ, modB_zero, modB_succ, rows_lit, repB_zero, repB_succ, List.length_cons, List.length_nil, upd_upd_same, upd_apply, mk_tmp, mk_heap, mk_gen, lookupA, lookupH, List.getD_cons_zero, List.getD_cons_succ, init_two, tops, Bool.true_and, and_self, and_true, true_and, true_or, if_true, if_false, ite_true, ite_false, reduceCtorEq, reduceIte]
    exact .inl e1.symm
  rintro ⟨t, ht1, ht2⟩
  have ht2' : t ≤ n := ht2
  have ln := rpC_len (v := v) ht2'
  by_cases hlt : t < n
  · have hltI : (t : Int) < (n : Int) := by omega
    have k1 : min t (n - t) ≤ t := Nat.min_le_left _ _
    have k2 : t + min t (n - t) ≤ n := by omega
    have k3 : 1 ≤ min t (n - t) := by omega
    have e2 := rpC_src (v := v) (n := n) k1
    have e3 := rpC_put (v := v) k2
    have q1 : t + (n - t) ≤ n := by omega
    have wt : IntKind.i64.wrap ((t : Int) + ((min t (n - t) : Nat) : Int)) = ((t + min t (n - t) : Nat) : Int) := wrap64 (by omega) (by omega)
    obtain ⟨m, hm⟩ : ∃ m, min t (n - t) = m := ⟨_, rfl⟩
    rw [hm] at k1 k2 k3 e2 e3 wt
    simp (config := { maxSteps := 1000000 }) +decide only [NoH, Old, OldL, nilQ, nilA, asgn, nz, RechL, ReY, isNew, stepO, XPost, postN, XOk, updN, updU, isEff, avalue, aeff, ASt.eval, ASt.put, ASt.set, ASt.new, Nat.reduceDiv, Nat.reduceAdd, Int.reduceToNat, absV, absC, scalar, alen, acap, conc, flats, live, blkOf, aload, rd, part?, afieldAddr, afield, aindexAddr, cellsOf, afill, places, abuild, optI, asliceV, asliceS, szOk, srcCells, aappend, acopy, aclear, astore, amakeSlice, abuildSlice, snapL, mapO, treeL, AVal.tree, AVal.flatT, isFlat, ares, isFz, afroz, afrozB, lookupA, lookupH, tops, if_true, if_false, reduceCtorEq, forall_const, ite_true, ite_false, implies_true, walkS, tabS, Try.results83, eq_true hltI, hlt, eq_true ht2', ln, eq_true q1, hm, e2, e3, wt, Nat.zero_le]
    refine ⟨⟨t + m, by omega, k2⟩, ?_, by show n - (t + m) < n - t; omega⟩
    refine weak_mk rfl (by first | exact Nat.le_refl _ | (simp only [mk_gen]; omega)) ?_ ?_ <;> simp +decide only [w_lookup_nil, w_lookup_cons, ch_ch, ch_lit, lit_ch, wkT, wkH, wkB, WVL, WV_refl', Int.natCast_zero, Int.natCast_add, Int.natCast_one, Nat.sub_self, Nat.sub_zero, List.replicate_zero, List.take_zero, List.nil_append, List.append_nil, fillC_zero, Nat.reduceDiv, Nat.reduceAdd, upd_bk, bk_at, getB_zero, getB_succ, modB_zero, modB_succ, rows_lit, repB_zero, repB_succ, List.length_cons, List.length_nil, upd_upd_same, upd_apply, mk_tmp, mk_heap, mk_gen, lookupA, lookupH, List.getD_cons_zero, List.getD_cons_succ, init_two, tops, Bool.true_and, and_self, and_true, true_and, true_or, if_true, if_false, ite_true, ite_false, reduceCtorEq, reduceIte]
  have e : t = n := by omega
  subst e
  have hltI : ¬ (t : Int) < (t : Int) := by omega
  have tc : List.take t (List.replicate t v) = List.replicate t v := List.take_of_length_le (by simp)
  simp (config := { maxSteps := 1000000 }) +decide only [NoH, Old, OldL, nilQ, nilA, asgn, nz, RechL, ReY, isNew, stepO, XPost, postN, XOk, updN, updU, isEff, avalue, aeff, ASt.eval, ASt.put, ASt.set, ASt.new, Nat.reduceDiv, Nat.reduceAdd, Int.reduceToNat, absV, absC, scalar, alen, acap, conc, flats, live, blkOf, aload, rd, part?, afieldAddr, afield, aindexAddr, cellsOf, afill, places, abuild, optI, asliceV, asliceS, szOk, srcCells, aappend, acopy, aclear, astore, amakeSlice, abuildSlice, snapL, mapO, treeL, AVal.tree, AVal.flatT, isFlat, ares, isFz, afroz, afrozB, lookupA, lookupH, tops, if_true, if_false, reduceCtorEq, forall_const, ite_true, ite_false, implies_true, walkS, tabS, Try.results83, eq_false hltI, rpC_n, tc]
def itL (n : Nat) : List Int := (List.range n).map fun i : Nat => (i : Int)
theorem itL_len (n : Nat) : (itL n).length = n := by simp [itL]
theorem itL_set {n k : Nat} (h : k < n) : (itL k ++ List.replicate (n - k) 0).set k (k : Int) = itL (k + 1) ++ List.replicate (n - (k + 1)) 0 := by
  rw [List.set_append_right _ _ (by rw [itL_len]; exact Nat.le_refl _), itL_len, Nat.sub_self, show n - k = (n - (k + 1)) + 1 by omega, List.replicate_succ, List.set_cons_zero]
  simp [itL, List.range_succ]
theorem denx_items (D A : List (List Int)) (hD : D.length ≤ 1000000) : DenX Try.prog 42 [.v (proV D A)] [.v (proV D A)] (xints (itL D.length)) := by
  have h8 : (D.length : Int) * ((8 : Nat) : Int) ≤ 281474976710656 := by omega
  have h63 : (D.length : Int) ≤ 9223372036854775807 := by omega
  refine denx_of_awpG (ghs [] [1]) Try.func42 rfl (by kernel_rfl) (Nat.le_of_ble_eq_true rfl) (by simp +decide only [w_embA_nil, w_embA_cons, w_emb_v, w_emb_ol, w_emb_op, w_emb_agg, w_emb_tup, w_embL_nil, w_embL_cons, embL_i, List.map_cons, List.map_nil, List.nil_append, List.append_nil, List.cons_append, List.nodup_cons, List.nodup_nil, List.mem_cons, List.mem_nil_iff, List.not_mem_nil, ch_ch, ch_lit, lit_ch, Nat.reduceAdd]) mixed (by kernel_rfl) fun hl => ?_
  simp only [xlensL, xlens, lensL, lens, lensL_i, lensL_mapC, xlensL_i, maxI, and_true, true_and] at hl
  rw [Try.ntmps42]
  refine ex_start ?_
  simp (config := { maxSteps := 1000000 }) +decide only [NoH, Old, OldL, nilQ, nilA, asgn, nz, RechL, ReY, isNew, stepO, XPost, postN, XOk, updN, updU, isEff, avalue, aeff, ASt.eval, ASt.put, ASt.set, ASt.new, Nat.reduceDiv, Nat.reduceAdd, Int.reduceToNat, absV, absC, scalar, alen, acap, conc, flats, live, blkOf, aload, rd, part?, afieldAddr, afield, aindexAddr, cellsOf, afill, places, abuild, optI, asliceV, asliceS, szOk, srcCells, aappend, acopy, aclear, astore, amakeSlice, abuildSlice, snapL, mapO, treeL, AVal.tree, AVal.flatT, isFlat, ares, isFz, afroz, afrozB, lookupA, lookupH, tops, if_true, if_false, reduceCtorEq, forall_const, ite_true, ite_false, implies_true, walkS, tabS, Try.results42, h8, h63, rep_i]
  refine ex_loop (fun k : {k : Nat // k ≤ D.length} => mkG (ghs [] [1]) [(3, .own 8 1 0 D.length), (10, .i D.length), (11, .i k.1)] [(8, ⟨1, 1, mapC AVal.i (itL k.1 ++ List.replicate (D.length - k.1) 0)⟩)] 2 20) (fun k => D.length - k.1) ⟨0, Nat.zero_le _⟩ ?_ ?_
  · have e0 : itL 0 ++ List.replicate (D.length - 0) 0 = List.replicate D.length 0 := by simp [itL]
    refine weak_mk rfl (by first | exact Nat.le_refl _ | (simp only [mk_gen]; omega)) ?_ ?_ <;> simp +decide only [w_lookup_nil, w_lookup_cons, ch_ch, ch_lit, lit_ch, wkT, wkH, wkB, WVL, WV_refl', Int.natCast_zero, Int.natCast_add, Int.natCast_one, Nat.sub_self, Nat.sub_zero, List.replicate_zero, List.take_zero, List.nil_append, List.append_nil, fillC_zero, Nat.reduceDiv, Nat.reduceAdd, upd_bk, bk_at, getB_zero, getB_succ, modB_zero, modB_succ, rows_lit, repB_zero, repB_succ, List.length_cons, List.length_nil, upd_upd_same, upd_apply, mk_tmp, mk_heap, mk_gen, lookupA, lookupH, List.getD_cons_zero, List.getD_cons_succ, init_two, tops, Bool.true_and, and_self, and_true, true_and, true_or, if_true, if_false, ite_true, ite_false, reduceCtorEq, reduceIte, e0, itL, List.range_zero, List.map_nil]
  rintro ⟨k, hk⟩
  have hk' : k ≤ D.length := hk
  have lX : (itL k ++ List.replicate (D.length - k) 0).length = D.length := by rw [List.length_append, itL_len, List.length_replicate]; omega
  by_cases hlt : k < D.length
  · have hltI : (k : Int) < (D.length : Int) := by omega
    have hw : IntKind.i64.wrap ((k : Int) + 1) = ((k + 1 : Nat) : Int) := wrap64 (by omega) (by omega)
    have es := itL_set hlt
    generalize hX : itL k ++ List.replicate (D.length - k) 0 = X at *
    have kX : k < X.length := by omega
    simp (config := { maxSteps := 1000000 }) +decide only [NoH, Old, OldL, nilQ, nilA, asgn, nz, RechL, ReY, isNew, stepO, XPost, postN, XOk, updN, updU, isEff, avalue, aeff, ASt.eval, ASt.put, ASt.set, ASt.new, Nat.reduceDiv, Nat.reduceAdd, Int.reduceToNat, absV, absC, scalar, alen, acap, conc, flats, live, blkOf, aload, rd, part?, afieldAddr, afield, aindexAddr, cellsOf, afill, places, abuild, optI, asliceV, asliceS, szOk, srcCells, aappend, acopy, aclear, astore, amakeSlice, abuildSlice, snapL, mapO, treeL, AVal.tree, AVal.flatT, isFlat, ares, isFz, afroz, afrozB, lookupA, lookupH, tops, if_true, if_false, reduceCtorEq, forall_const, ite_true, ite_false, implies_true, walkS, tabS, Try.results42, eq_true hltI, hlt, kX, lX, mapC_set, es, hw]
    refine ⟨⟨k + 1, hlt⟩, ?_, by show D.length - (k + 1) < D.length - k; omega⟩
    refine weak_mk rfl (by first | exact Nat.le_refl _ | (simp only [mk_gen]; omega)) ?_ ?_ <;> simp +decide only [w_lookup_nil, w_lookup_cons, ch_ch, ch_lit, lit_ch, wkT, wkH, wkB, WVL, WV_refl', Int.natCast_zero, Int.natCast_add, Int.natCast_one, Nat.sub_self, Nat.sub_zero, List.replicate_zero, List.take_zero, List.nil_append, List.append_nil, fillC_zero, Nat.reduceDiv, Nat.reduceAdd, upd_bk, bk_at, getB_zero, getB_succ, modB_zero, modB_succ, rows_lit, repB_zero, repB_succ, List.length_cons, List.length_nil, upd_upd_same, upd_apply, mk_tmp, mk_heap, mk_gen, lookupA, lookupH, List.getD_cons_zero, List.getD_cons_succ, init_two, tops, Bool.true_and, and_self, and_true, true_and, true_or, if_true, if_false, ite_true, ite_false, reduceCtorEq, reduceIte]
  · have e : k = D.length := by omega
    subst e
    have hltI : ¬ (D.length : Int) < (D.length : Int) := by omega
    have eX : itL D.length ++ List.replicate (D.length - D.length) 0 = itL D.length := by rw [Nat.sub_self]; simp
    have l9 := itL_len D.length
    have t9 : List.take D.length (itL D.length) = itL D.length := List.take_of_length_le (by omega)
    rw [eX]
    simp (config := { maxSteps := 1000000 }) +decide only [NoH, Old, OldL, nilQ, nilA, asgn, nz, RechL, ReY, isNew, stepO, XPost, postN, XOk, updN, updU, isEff, avalue, aeff, ASt.eval, ASt.put, ASt.set, ASt.new, Nat.reduceDiv, Nat.reduceAdd, Int.reduceToNat, absV, absC, scalar, alen, acap, conc, flats, live, blkOf, aload, rd, part?, afieldAddr, afield, aindexAddr, cellsOf, afill, places, abuild, optI, asliceV, asliceS, szOk, srcCells, aappend, acopy, aclear, astore, amakeSlice, abuildSlice, snapL, mapO, treeL, AVal.tree, AVal.flatT, isFlat, ares, isFz, afroz, afrozB, lookupA, lookupH, tops, if_true, if_false, reduceCtorEq, forall_const, ite_true, ite_false, implies_true, walkS, tabS, Try.results42, eq_false hltI, l9, t9]
theorem deny_DegreeOrder {D A : List (List Int)} (h : PrD D A) (h6 : D.length ≤ 6) : DenY Try.prog 20 [.v (proV D A)] (OrdOk A D.length) (fun _ => [.v (proV D A)]) (fun ys => .v (.tup [ints ys, .i 0])) := by
  have hlA := h.len
  have hn := h.few
  have t0 : treeL [proP D A] = true := by simp only [treeL, AVal.tree, treeL_ints, treeL_i, Bool.and_self]
  have h8 : (D.length : Int) * ((8 : Nat) : Int) ≤ 281474976710656 := by omega
  have h63 : (D.length : Int) ≤ 9223372036854775807 := by omega
  have dS := deny_SortStable h h6 (itL D.length) rfl
  have li := itL_len D.length
  rw [show xints (itL D.length) = .ol 1 (mapC xi (itL D.length)) D.length by show XT.ol _ _ _ = _; rw [li]] at dS
  refine denY_of_awpG (ghs [] [1]) Try.func20 rfl (by kernel_rfl) (Nat.le_of_ble_eq_true rfl) (by simp +decide only [w_embA_nil, w_embA_cons, w_emb_v, w_emb_ol, w_emb_op, w_emb_agg, w_emb_tup, w_embL_nil, w_embL_cons, embL_i, List.map_cons, List.map_nil, List.nil_append, List.append_nil, List.cons_append, List.nodup_cons, List.nodup_nil, List.mem_cons, List.mem_nil_iff, List.not_mem_nil, ch_ch, ch_lit, lit_ch, Nat.reduceAdd]) mixed (by kernel_rfl) fun hl => ?_
  simp only [xlensL, xlens, lensL, lens, lensL_i, lensL_mapC, xlensL_i, maxI, and_true, true_and] at hl
  rw [Try.ntmps20]
  refine ex_start ?_
  simp (config := { maxSteps := 1000000 }) +decide only [NoH, Old, OldL, nilQ, nilA, asgn, nz, RechL, ReY, isNew, stepO, XPost, postN, XOk, updN, updU, isEff, avalue, aeff, ASt.eval, ASt.put, ASt.set, ASt.new, Nat.reduceDiv, Nat.reduceAdd, Int.reduceToNat, absV, absC, scalar, alen, acap, conc, flats, live, blkOf, aload, rd, part?, afieldAddr, afield, aindexAddr, cellsOf, afill, places, abuild, optI, asliceV, asliceS, szOk, srcCells, aappend, acopy, aclear, astore, amakeSlice, abuildSlice, snapL, mapO, treeL, AVal.tree, AVal.flatT, isFlat, ares, isFz, afroz, afrozB, lookupA, lookupH, tops, if_true, if_false, reduceCtorEq, forall_const, ite_true, ite_false, implies_true, walkS, tabS, Try.results20]
  refine callK (den_implValidProblem h) (by first | exact .inl rfl | exact .inr rfl) ?_
  simp (config := { maxSteps := 1000000 }) +decide only [NoH, Old, OldL, nilQ, nilA, asgn, nz, RechL, ReY, isNew, stepO, XPost, postN, XOk, updN, updU, isEff, avalue, aeff, ASt.eval, ASt.put, ASt.set, ASt.new, Nat.reduceDiv, Nat.reduceAdd, Int.reduceToNat, absV, absC, scalar, alen, acap, conc, flats, live, blkOf, aload, rd, part?, afieldAddr, afield, aindexAddr, cellsOf, afill, places, abuild, optI, asliceV, asliceS, szOk, srcCells, aappend, acopy, aclear, astore, amakeSlice, abuildSlice, snapL, mapO, treeL, AVal.tree, AVal.flatT, isFlat, ares, isFz, afroz, afrozB, lookupA, lookupH, tops, if_true, if_false, reduceCtorEq, forall_const, ite_true, ite_false, implies_true, walkS, tabS, Try.results20, h8, h63, rep_i]
  refine ex_loop (fun k : {k : Nat // k ≤ D.length} => mkG (ghs [] [1]) [(1, proP D A), (4, .own 12 1 0 D.length), (14, .i D.length), (15, .i k.1)] [(12, ⟨1, 1, mapC AVal.i (itL k.1 ++ List.replicate (D.length - k.1) 0)⟩)] 2 27) (fun k => D.length - k.1) ⟨0, Nat.zero_le _⟩ ?_ ?_
  · have e0 : itL 0 ++ List.replicate (D.length - 0) 0 = List.replicate D.length 0 := by simp [itL]
    refine weak_mk rfl (by first | exact Nat.le_refl _ | (simp only [mk_gen]; omega)) ?_ ?_ <;> simp +decide only [w_lookup_nil, w_lookup_cons, ch_ch, ch_lit, lit_ch, wkT, wkH, wkB, WVL, WV_refl', Int.natCast_zero, Int.natCast_add, Int.natCast_one, Nat.sub_self, Nat.sub_zero, List.replicate_zero, List.take_zero, List.nil_append, List.append_nil, fillC_zero, Nat.reduceDiv, Nat.reduceAdd, upd_bk, bk_at, getB_zero, getB_succ, modB_zero, modB_succ, rows_lit, repB_zero, repB_succ, List.length_cons, List.length_nil, upd_upd_same, upd_apply, mk_tmp, mk_heap, mk_gen, lookupA, lookupH, List.getD_cons_zero, List.getD_cons_succ, init_two, tops, Bool.true_and, and_self, and_true, true_and, true_or, if_true, if_false, ite_true, ite_false, reduceCtorEq, reduceIte, e0, itL, List.range_zero, List.map_nil]
  rintro ⟨k, hk⟩
  have hk' : k ≤ D.length := hk
  have lX : (itL k ++ List.replicate (D.length - k) 0).length = D.length := by rw [List.length_append, itL_len, List.length_replicate]; omega
  by_cases hlt : k < D.length
  · have hltI : (k : Int) < (D.length : Int) := by omega
    have hw : IntKind.i64.wrap ((k : Int) + 1) = ((k + 1 : Nat) : Int) := wrap64 (by omega) (by omega)
    have es := itL_set hlt
    generalize hX : itL k ++ List.replicate (D.length - k) 0 = X at *
    have kX : k < X.length := by omega
    simp (config := { maxSteps := 1000000 }) +decide only [NoH, Old, OldL, nilQ, nilA, asgn, nz, RechL, ReY, isNew, stepO, XPost, postN, XOk, updN, updU, isEff, avalue, aeff, ASt.eval, ASt.put, ASt.set, ASt.new, Nat.reduceDiv, Nat.reduceAdd, Int.reduceToNat, absV, absC, scalar, alen, acap, conc, flats, live, blkOf, aload, rd, part?, afieldAddr, afield, aindexAddr, cellsOf, afill, places, abuild, optI, asliceV, asliceS, szOk, srcCells, aappend, acopy, aclear, astore, amakeSlice, abuildSlice, snapL, mapO, treeL, AVal.tree, AVal.flatT, isFlat, ares, isFz, afroz, afrozB, lookupA, lookupH, tops, if_true, if_false, reduceCtorEq, forall_const, ite_true, ite_false, implies_true, walkS, tabS, Try.results20, eq_true hltI, hlt, kX, lX, mapC_set, es, hw]
    refine ⟨⟨k + 1, hlt⟩, ?_, by show D.length - (k + 1) < D.length - k; omega⟩
    refine weak_mk rfl (by first | exact Nat.le_refl _ | (simp only [mk_gen]; omega)) ?_ ?_ <;> simp +decide only [w_lookup_nil, w_lookup_cons, ch_ch, ch_lit, lit_ch, wkT, wkH, wkB, WVL, WV_refl', Int.natCast_zero, Int.natCast_add, Int.natCast_one, Nat.sub_self, Nat.sub_zero, List.replicate_zero, List.take_zero, List.nil_append, List.append_nil, fillC_zero, Nat.reduceDiv, Nat.reduceAdd, upd_bk, bk_at, getB_zero, getB_succ, modB_zero, modB_succ, rows_lit, repB_zero, repB_succ, List.length_cons, List.length_nil, upd_upd_same, upd_apply, mk_tmp, mk_heap, mk_gen, lookupA, lookupH, List.getD_cons_zero, List.getD_cons_succ, init_two, tops, Bool.true_and, and_self, and_true, true_and, true_or, if_true, if_false, ite_true, ite_false, reduceCtorEq, reduceIte]
  have e : k = D.length := by omega
  subst e
  have hltI : ¬ (D.length : Int) < (D.length : Int) := by omega
  have eX : itL D.length ++ List.replicate (D.length - D.length) 0 = itL D.length := by rw [Nat.sub_self]; simp
  have t9 : List.take D.length (itL D.length) = itL D.length := List.take_of_length_le (by omega)
  rw [eX]
  simp (config := { maxSteps := 1000000 }) +decide only [NoH, Old, OldL, nilQ, nilA, asgn, nz, RechL, ReY, isNew, stepO, XPost, postN, XOk, updN, updU, isEff, avalue, aeff, ASt.eval, ASt.put, ASt.set, ASt.new, Nat.reduceDiv, Nat.reduceAdd, Int.reduceToNat, absV, absC, scalar, alen, acap, conc, flats, live, blkOf, aload, rd, part?, afieldAddr, afield, aindexAddr, cellsOf, afill, places, abuild, optI, asliceV, asliceS, szOk, srcCells, aappend, acopy, aclear, astore, amakeSlice, abuildSlice, snapL, mapO, treeL, AVal.tree, AVal.flatT, isFlat, ares, isFz, afroz, afrozB, lookupA, lookupH, tops, if_true, if_false, reduceCtorEq, forall_const, ite_true, ite_false, implies_true, walkS, tabS, Try.results20, eq_false hltI, li, t9, t0, treeL_i]
  refine callY dS (by simp (config := { maxSteps := 1000000 }) +decide only [NoH, Old, OldL, nilQ, nilA, asgn, nz, RechL, ReY, isNew, stepO, XPost, postN, XOk, updN, updU, isEff, avalue, aeff, ASt.eval, ASt.put, ASt.set, ASt.new, Nat.reduceDiv, Nat.reduceAdd, Int.reduceToNat, absV, absC, scalar, alen, acap, conc, flats, live, blkOf, aload, rd, part?, afieldAddr, afield, aindexAddr, cellsOf, afill, places, abuild, optI, asliceV, asliceS, szOk, srcCells, aappend, acopy, aclear, astore, amakeSlice, abuildSlice, snapL, mapO, treeL, AVal.tree, AVal.flatT, isFlat, ares, isFz, afroz, afrozB, lookupA, lookupH, tops, if_true, if_false, reduceCtorEq, forall_const, ite_true, ite_false, implies_true, walkS, tabS, Try.results20, li, t9, t0, treeL_i]) (fun i hi => by
    have lh := OrdOk.len hi
    simp (config := { maxSteps := 1000000 }) +decide only [NoH, Old, OldL, nilQ, nilA, asgn, nz, RechL, ReY, isNew, stepO, XPost, postN, XOk, updN, updU, isEff, avalue, aeff, ASt.eval, ASt.put, ASt.set, ASt.new, Nat.reduceDiv, Nat.reduceAdd, Int.reduceToNat, absV, absC, scalar, alen, acap, conc, flats, live, blkOf, aload, rd, part?, afieldAddr, afield, aindexAddr, cellsOf, afill, places, abuild, optI, asliceV, asliceS, szOk, srcCells, aappend, acopy, aclear, astore, amakeSlice, abuildSlice, snapL, mapO, treeL, AVal.tree, AVal.flatT, isFlat, ares, isFz, afroz, afrozB, lookupA, lookupH, tops, if_true, if_false, reduceCtorEq, forall_const, ite_true, ite_false, implies_true, walkS, tabS, Try.results20, li, t9, lh, t0, treeL_i]) ?_
  rintro ys hy
  have hy' : OrdOk A D.length ys := hy
  have ly := hy'.len
  have ey : ints ys = .lst (mapC AVal.i ys) D.length := by show AVal.lst _ _ = _; rw [ly]
  simp (config := { maxSteps := 1000000 }) +decide only [NoH, Old, OldL, nilQ, nilA, asgn, nz, RechL, ReY, isNew, stepO, XPost, postN, XOk, updN, updU, isEff, avalue, aeff, ASt.eval, ASt.put, ASt.set, ASt.new, Nat.reduceDiv, Nat.reduceAdd, Int.reduceToNat, absV, absC, scalar, alen, acap, conc, flats, live, blkOf, aload, rd, part?, afieldAddr, afield, aindexAddr, cellsOf, afill, places, abuild, optI, asliceV, asliceS, szOk, srcCells, aappend, acopy, aclear, astore, amakeSlice, abuildSlice, snapL, mapO, treeL, AVal.tree, AVal.flatT, isFlat, ares, isFz, afroz, afrozB, lookupA, lookupH, tops, if_true, if_false, reduceCtorEq, forall_const, ite_true, ite_false, implies_true, walkS, tabS, Try.results20, ly, t0, treeL_i]
  refine yretW (s' := mkG (ghs [] [1]) [(2, .lst (mapC AVal.i ys) D.length), (3, .i 0)] [] 20 27) (.step ?_ (.refl _)) ys hy' ?_
  · refine weak_mk rfl (by first | exact Nat.le_refl _ | (simp only [mk_gen]; omega)) ?_ ?_ <;> simp +decide only [w_lookup_nil, w_lookup_cons, ch_ch, ch_lit, lit_ch, wkT, wkH, wkB, WVL, WV_refl', Int.natCast_zero, Int.natCast_add, Int.natCast_one, Nat.sub_self, Nat.sub_zero, List.replicate_zero, List.take_zero, List.nil_append, List.append_nil, fillC_zero, Nat.reduceDiv, Nat.reduceAdd, upd_bk, bk_at, getB_zero, getB_succ, modB_zero, modB_succ, rows_lit, repB_zero, repB_succ, List.length_cons, List.length_nil, upd_upd_same, upd_apply, mk_tmp, mk_heap, mk_gen, lookupA, lookupH, List.getD_cons_zero, List.getD_cons_succ, init_two, tops, Bool.true_and, and_self, and_true, true_and, true_or, if_true, if_false, ite_true, ite_false, reduceCtorEq, reduceIte]
    exact WV_frz rfl rfl rfl (by simp [len_mapC, ly]) (by rw [List.drop_zero]; exact (List.take_of_length_le (by rw [len_mapC, ly]; exact Nat.le_of_eq (Nat.mul_one _).symm)).symm) (treeL_i _)
  · simp (config := { maxSteps := 1000000 }) +decide only [NoH, Old, OldL, nilQ, nilA, asgn, nz, RechL, ReY, isNew, stepO, XPost, postN, XOk, updN, updU, isEff, avalue, aeff, ASt.eval, ASt.put, ASt.set, ASt.new, Nat.reduceDiv, Nat.reduceAdd, Int.reduceToNat, absV, absC, scalar, alen, acap, conc, flats, live, blkOf, aload, rd, part?, afieldAddr, afield, aindexAddr, cellsOf, afill, places, abuild, optI, asliceV, asliceS, szOk, srcCells, aappend, acopy, aclear, astore, amakeSlice, abuildSlice, snapL, mapO, treeL, AVal.tree, AVal.flatT, isFlat, ares, isFz, afroz, afrozB, lookupA, lookupH, tops, if_true, if_false, reduceCtorEq, forall_const, ite_true, ite_false, implies_true, walkS, tabS, Try.results20, ey, treeL_ints]
theorem denx_unassigned (D A : List (List Int)) (h1 : 1 ≤ D.length) (hD : D.length ≤ 1000000) : DenX Try.prog 56 [.v (proV D A)] [.v (proV D A)] (xints (List.replicate D.length (-1))) := by
  have t0 : treeL [proP D A] = true := by simp only [treeL, AVal.tree, treeL_ints, treeL_i, Bool.and_self]
  have hs : (List.replicate 1 (0 : Int)).set 0 (-1) = [-1] := rfl
  have ti : List.take D.length (List.replicate D.length (-1 : Int)) = List.replicate D.length (-1) := List.take_of_length_le (by simp)
  have lr : (List.replicate D.length (-1 : Int)).length = D.length := List.length_replicate
  refine denx_of_awpG (ghs [] [1, 3]) Try.func56 rfl (by kernel_rfl) (Nat.le_of_ble_eq_true rfl) (by simp +decide only [w_embA_nil, w_embA_cons, w_emb_v, w_emb_ol, w_emb_op, w_emb_agg, w_emb_tup, w_embL_nil, w_embL_cons, embL_i, List.map_cons, List.map_nil, List.nil_append, List.append_nil, List.cons_append, List.nodup_cons, List.nodup_nil, List.mem_cons, List.mem_nil_iff, List.not_mem_nil, ch_ch, ch_lit, lit_ch, Nat.reduceAdd]) mixed (by kernel_rfl) fun hl => ?_
  simp only [xlensL, xlens, lensL, lens, lensL_i, lensL_mapC, xlensL_i, maxI, and_true, true_and] at hl
  rw [Try.ntmps56]
  refine ex_start ?_
  simp (config := { maxSteps := 1000000 }) +decide only [NoH, Old, OldL, nilQ, nilA, asgn, nz, RechL, ReY, isNew, stepO, XPost, postN, XOk, updN, updU, isEff, avalue, aeff, ASt.eval, ASt.put, ASt.set, ASt.new, Nat.reduceDiv, Nat.reduceAdd, Int.reduceToNat, absV, absC, scalar, alen, acap, conc, flats, live, blkOf, aload, rd, part?, afieldAddr, afield, aindexAddr, cellsOf, afill, places, abuild, optI, asliceV, asliceS, szOk, srcCells, aappend, acopy, aclear, astore, amakeSlice, abuildSlice, snapL, mapO, treeL, AVal.tree, AVal.flatT, isFlat, ares, isFz, afroz, afrozB, lookupA, lookupH, tops, if_true, if_false, reduceCtorEq, forall_const, ite_true, ite_false, implies_true, walkS, tabS, Try.results56, hs]
  refine callX (denx_Repeat (-1) D.length h1 hD) (by simp (config := { maxSteps := 1000000 }) +decide only [NoH, Old, OldL, nilQ, nilA, asgn, nz, RechL, ReY, isNew, stepO, XPost, postN, XOk, updN, updU, isEff, avalue, aeff, ASt.eval, ASt.put, ASt.set, ASt.new, Nat.reduceDiv, Nat.reduceAdd, Int.reduceToNat, absV, absC, scalar, alen, acap, conc, flats, live, blkOf, aload, rd, part?, afieldAddr, afield, aindexAddr, cellsOf, afill, places, abuild, optI, asliceV, asliceS, szOk, srcCells, aappend, acopy, aclear, astore, amakeSlice, abuildSlice, snapL, mapO, treeL, AVal.tree, AVal.flatT, isFlat, ares, isFz, afroz, afrozB, lookupA, lookupH, tops, if_true, if_false, reduceCtorEq, forall_const, ite_true, ite_false, implies_true, walkS, tabS, Try.results56, hs, treeL_i]) ?_
  simp (config := { maxSteps := 1000000 }) +decide only [NoH, Old, OldL, nilQ, nilA, asgn, nz, RechL, ReY, isNew, stepO, XPost, postN, XOk, updN, updU, isEff, avalue, aeff, ASt.eval, ASt.put, ASt.set, ASt.new, Nat.reduceDiv, Nat.reduceAdd, Int.reduceToNat, absV, absC, scalar, alen, acap, conc, flats, live, blkOf, aload, rd, part?, afieldAddr, afield, aindexAddr, cellsOf, afill, places, abuild, optI, asliceV, asliceS, szOk, srcCells, aappend, acopy, aclear, astore, amakeSlice, abuildSlice, snapL, mapO, treeL, AVal.tree, AVal.flatT, isFlat, ares, isFz, afroz, afrozB, lookupA, lookupH, tops, if_true, if_false, reduceCtorEq, forall_const, ite_true, ite_false, implies_true, walkS, tabS, Try.results56, ti, lr, t0, treeL_i, treeL_ints]
/-- channels for some items, without violations -/
structure PA (D A : List (List Int)) (L : List Int) : Prop where
  len : L.length = D.length
  dom : ∀ i : Nat, i < L.length → L.getD i 0 = -1 ∨ L.getD i 0 ∈ D.getD i []
  far : ∀ i k : Nat, i < L.length → k < L.length → i ≠ k → 0 ≤ L.getD i 0 → 0 ≤ L.getD k 0 → ¬ Near (L.getD i 0) (L.getD k 0) (ap A i k)
section
variable {D A : List (List Int)} (h : PrD D A)
include h
theorem PrD.domIn {i : Nat} {c : Int} (hi : i < D.length) (hc : c ∈ D.getD i []) : 0 ≤ c ∧ c ≤ 999 := by
  rw [List.getD_eq_getElem?_getD, List.getElem?_eq_getElem hi, Option.getD_some] at hc
  obtain ⟨j, hj, rfl⟩ := List.getElem_of_mem hc
  exact ((h.dom _ (List.getElem_mem hi)).up j hj).1
theorem PrD.apSym {i k : Nat} (hi : i < D.length) (hk : k < D.length) : ap A i k = ap A k i := by
  unfold ap
  rw [Int.toNat_natCast, Int.toNat_natCast]
  exact h.sym i k hi hk
theorem PA.small {L : List Int} (p : PA D A L) : Small L := fun k hk => by
  have e : L.getD k 0 = L[k] := by rw [List.getD_eq_getElem?_getD, List.getElem?_eq_getElem hk, Option.getD_some]
  rcases p.dom k hk with e1 | e1
  · rw [e] at e1; omega
  · have := h.domIn (by have := p.len; omega) e1
    rw [e] at this
    omega
theorem PA.start : PA D A (List.replicate D.length (-1)) := by
  have g : ∀ i : Nat, i < D.length → (List.replicate D.length (-1 : Int)).getD i 0 = -1 := fun i hi => by
    rw [List.getD_eq_getElem?_getD, List.getElem?_replicate, if_pos hi, Option.getD_some]
  refine ⟨by simp, fun i hi => .inl (g i (by simpa using hi)), fun i k hi hk _ h0 => ?_⟩
  rw [g i (by simpa using hi)] at h0
  omega
theorem PA.set {L : List Int} (p : PA D A L) {it : Nat} (hi : it < L.length) {c : Int} (hc : c ∈ D.getD it []) (hf : Free A L it c) : PA D A (L.set it c) := by
  have hl := p.len
  have hfr : ∀ k : Nat, k < L.length → k ≠ it → 0 ≤ L.getD k 0 → ¬ Near c (L.getD k 0) (ap A it k) := fun k hk hne h0 => by
    have e : L.getD k 0 = L[k] := by rw [List.getD_eq_getElem?_getD, List.getElem?_eq_getElem hk, Option.getD_some]
    rw [e] at h0 ⊢
    exact hf k hk hne h0
  refine ⟨by rw [List.length_set]; exact hl, fun i hi' => ?_, fun i k hi' hk' hne h0 h1 => ?_⟩
  · rw [List.length_set] at hi'
    rw [getD_set _ _ _ _ hi]
    by_cases e : it = i
    · subst e; rw [if_pos rfl]; exact .inr hc
    · rw [if_neg e]; exact p.dom i hi'
  · rw [List.length_set] at hi' hk'
    rw [getD_set _ _ _ _ hi] at h0 h1 ⊢
    rw [getD_set _ _ _ _ hi]
    by_cases e1 : it = i
    · subst e1
      have e2 : ¬ it = k := hne
      rw [if_pos rfl, if_neg e2]
      rw [if_neg e2] at h1
      exact hfr k hk' (fun e => e2 e.symm) h1
    · rw [if_neg e1] at h0 ⊢
      by_cases e2 : it = k
      · subst e2
        rw [if_pos rfl, h.apSym (by omega) (by omega)]
        have := hfr i hi' (fun e => e1 e.symm) h0
        unfold Near at this ⊢
        omega
      · rw [if_neg e2] at h1 ⊢
        exact p.far i k hi' hk' hne h0 h1
theorem PA.all {L : List Int} (p : PA D A L) (ha : ∀ i : Nat, i < L.length → 0 ≤ L.getD i 0) : GA D A L := by
  have hd : ∀ i : Nat, i < L.length → L.getD i 0 ∈ D.getD i [] := fun i hi => (p.dom i hi).resolve_left fun e => by have := ha i hi; omega
  refine ⟨⟨p.len, fun x hx => ?_⟩, hd, fun i k hik hk => p.far i k (by omega) hk (by omega) (ha i (by omega)) (ha k hk)⟩
  obtain ⟨i, hi, rfl⟩ := List.getElem_of_mem hx
  have e : L.getD i 0 = L[i] := by rw [List.getD_eq_getElem?_getD, List.getElem?_eq_getElem hi, Option.getD_some]
  have := h.domIn (by have := p.len; omega) (hd i hi)
  rwa [e] at this
end
theorem chs_of {D A : List (List Int)} {L : List Int} {it m : Nat} {c : Int} (hc : c ∈ chs D A L it m) : c ∈ D.getD it [] ∧ Free A L it c := by
  unfold chs at hc
  obtain ⟨g1, g2⟩ := List.mem_filter.1 hc
  rw [bp_true] at g2
  exact ⟨List.mem_of_mem_take g1, g2⟩
theorem sort_items {n : Nat} {ys : List Int} (hp : ys.Perm (itL n)) : sortI ys = itL n := by
  have pw : (itL n).Pairwise (· < ·) := by
    unfold itL
    rw [List.pairwise_map]
    exact List.pairwise_lt_range.imp fun h => by omega
  refine List.Perm.eq_of_pairwise (le := (· ≤ ·)) (fun a b _ _ h1 h2 => by omega) (sortI_pairwise ys) (pw.imp fun h => by omega) ((sortI_perm ys).trans hp)
theorem compact_items (n : Nat) : Lib.compact (itL n) = itL n := by
  have pw : (itL n).Pairwise (· < ·) := by
    unfold itL
    rw [List.pairwise_map]
    exact List.pairwise_lt_range.imp fun h => by omega
  obtain ⟨h1, h2⟩ := compact_sorted (pw.imp fun h => by omega) (itL n).length (Nat.le_refl _)
  have e : Lib.compact (itL n) = Lib.compactUpTo (itL n).toArray (itL n).length := rfl
  rw [e]
  refine List.Perm.eq_of_pairwise (le := (· < ·)) (fun a b _ _ h1 h2 => by omega) h1 pw ?_
  refine (List.perm_ext_iff_of_nodup (h1.imp fun h => by omega) (pw.imp fun h => by omega)).2 fun y => ?_
  rw [h2 y]
  constructor
  · rintro ⟨j, hj, _, rfl⟩
    exact List.getElem_mem hj
  · intro hy
    obtain ⟨j, hj, rfl⟩ := List.getElem_of_mem hy
    exact ⟨j, hj, hj, rfl⟩
end Go.Proofs.Ytkmhoebopfgpdaa
