/-
  OWN WORK: how far apart channels must be; the problem of rows.
  OWN WORK: ratios of pairs; how far apart channels must be; the problem of rows.
-/
import Derived.Test.YtagomliggjndeaaDoorItC
namespace Go.Proofs.YtagomliggjndeaaDoor
open Go Go.Own Go.Proofs
set_option maxHeartbeats 4000000
set_option maxRecDepth 20000
set_option linter.unusedSimpArgs false
set_option linter.unusedVariables false
theorem matI_const (v : Int) (n : Nat) : List.replicate n (List.replicate n v) = matI (fun _ _ => v) n := by
  refine List.ext_getElem (by rw [matI_len, List.length_replicate]) fun i h1 h2 => ?_
  rw [matI_get, List.getElem_replicate]
  refine List.ext_getElem (by rw [rowI_len, List.length_replicate]) fun k h3 h4 => ?_
  rw [rowI_get, List.getElem_replicate]
/-- ratios after some rows, and some sectors of the next one -/
structure PQ (R : List (List Int)) (n m kk : Nat) (q : Nat → Nat → Int) : Prop where
  bd : ∀ a b, -200000 ≤ q a b ∧ q a b ≤ 200000
  old : ∀ j, j < m → ∀ k, k < n → k ≠ sv (R.getD j []) → q (sv (R.getD j [])) k ≤ (R.getD j []).getD (sv (R.getD j [])) 0 - (R.getD j []).getD k 0
  cur : ∀ k, k < kk → k ≠ sv (R.getD m []) → q (sv (R.getD m [])) k ≤ (R.getD m []).getD (sv (R.getD m [])) 0 - (R.getD m []).getD k 0
theorem PQ.skip {R : List (List Int)} {n m kk : Nat} {q : Nat → Nat → Int} (h : PQ R n m kk q) (hk : kk = sv (R.getD m [])) : PQ R n m (kk + 1) q :=
  ⟨h.bd, h.old, fun k hk2 hne => h.cur k (by omega) hne⟩
theorem PQ.put {R : List (List Int)} {n m kk : Nat} {q : Nat → Nat → Int} {v : Int} (h : PQ R n m kk q) (hv : v = (R.getD m []).getD (sv (R.getD m [])) 0 - (R.getD m []).getD kk 0) (hb : -200000 ≤ v) : PQ R n m (kk + 1) (put2 q (sv (R.getD m [])) kk (min (q (sv (R.getD m [])) kk) v)) := by
  have le : ∀ a b, put2 q (sv (R.getD m [])) kk (min (q (sv (R.getD m [])) kk) v) a b ≤ q a b := fun a b => by
    unfold put2
    split
    · rename_i e
      rw [e.1, e.2]
      omega
    · exact Int.le_refl _
  refine ⟨fun a b => ?_, fun j hj k hk hne => Int.le_trans (le _ _) (h.old j hj k hk hne), fun k hk hne => ?_⟩
  · have h1 := h.bd a b
    have h2 := le a b
    have h3 := h.bd (sv (R.getD m [])) kk
    refine ⟨?_, by omega⟩
    unfold put2
    split <;> omega
  · by_cases e : k = kk
    · subst e
      unfold put2
      rw [if_pos ⟨rfl, rfl⟩]
      omega
    · exact Int.le_trans (le _ _) (h.cur k (by omega) hne)
theorem PQ.next {R : List (List Int)} {n m : Nat} {q : Nat → Nat → Int} (h : PQ R n m n q) : PQ R n (m + 1) 0 q :=
  ⟨h.bd, fun j hj k hk hne => by
    by_cases e : j = m
    · subst e; exact h.cur k hk hne
    · exact h.old j (by omega) k hk hne, fun k hk => absurd hk (Nat.not_lt_zero _)⟩
theorem rowI_cell0 {q : Nat → Int} {n i : Nat} (hi : i < n) : (mapC AVal.i (rowI q n))[i]? = some (.i (q i)) := by
  have : i < (rowI q n).length := by rw [rowI_len]; exact hi
  rw [get_mapC _ _ _ this, rowI_get]
theorem gDr {R : List (List Int)} {j : Nat} (h : j < R.length) : R.getD j [] = R[j] := by simp [List.getD, h]
theorem deny_pairRatios {R : List (List Int)} {n : Nat} (h : RwOk R n) : DenY Tryd.prog 27 [.v (intss R)] (fun q : Nat → Nat → Int => PQ R n R.length 0 q) (fun _ => [.v (intss R)]) (fun q => .v (intss (matI q n))) := by
  refine denY_of_awpG (ghs [(21, ch 23 0)] [16, 22]) Tryd.func27 rfl (by kernel_rfl) (Nat.le_of_ble_eq_true rfl) (by simp +decide only [w_embA_nil, w_embA_cons, w_emb_v, w_emb_ol, w_emb_op, w_emb_agg, w_emb_tup, w_embL_nil, w_embL_cons, embL_i, List.map_cons, List.map_nil, List.nil_append, List.append_nil, List.cons_append, List.nodup_cons, List.nodup_nil, List.mem_cons, List.mem_nil_iff, List.not_mem_nil, ch_ch, ch_lit, lit_ch, Nat.reduceAdd]) mixed (by kernel_rfl) fun hl => ?_
  simp only [xlensL, xlens, lensL, lens, lensL_i, lensL_mapC, xlensL_i, maxI, and_true, true_and] at hl
  rw [Tryd.ntmps27]
  refine ex_start ?_
  have h1 := h.r1
  have h5 := h.r5
  have hn1 := h.n1
  have hn5 := h.n5
  have h0 : 0 < R.length := by omega
  have h0I : (0 : Int) < (R.length : Int) := by omega
  have l0 : R[0].length = n := (h.at h0).len
  have u1 : ∀ v : Int, (List.replicate 1 (0 : Int)).set 0 v = [v] := fun _ => rfl
  simp (config := { maxSteps := 1000000 }) +decide only [NoH, Old, OldL, nilQ, nilA, asgn, nz, RechL, ReY, isNew, stepO, XPost, postN, XOk, updN, updU, isEff, avalue, aeff, ASt.eval, ASt.put, ASt.set, ASt.new, Nat.reduceDiv, Nat.reduceAdd, Int.reduceToNat, absV, absC, scalar, alen, acap, conc, flats, live, blkOf, aload, rd, part?, afieldAddr, afield, aindexAddr, cellsOf, afill, places, abuild, optI, asliceV, asliceS, szOk, srcCells, aappend, acopy, astore, amakeSlice, abuildSlice, snapL, mapO, treeL, AVal.tree, AVal.flatT, isFlat, ares, isFz, afroz, afrozB, lookupA, lookupH, tops, if_true, if_false, reduceCtorEq, forall_const, ite_true, ite_false, implies_true, walkS, tabS, Tryd.results27, h0, h0I, l0]
  refine ex_loop (fun p : {p : Nat × Nat × Nat × (Nat → Nat) // p.1 ≤ n} => mkG (ghs [(21, ch 23 p.1.1)] [16, 22]) [(0, intss R), (3, .own 23 p.1.2.1 0 p.1.1), (12, .i n), (13, .i p.1.1)] ((23, ⟨p.1.2.1, 1, famC 23 p.1.2.2.2 (List.replicate p.1.1 (List.replicate n (200000 : Int)))⟩) :: famHf AVal.i 23 p.1.2.2.2 (List.replicate p.1.1 (List.replicate n (200000 : Int)))) p.1.2.2.1 66) (fun p => n - p.1.1) ⟨(0, 1, 2, fun _ => 0), Nat.zero_le _⟩ ?_ ?_
  · refine weak_mk rfl (by first | exact Nat.le_refl _ | (simp only [mk_gen]; omega)) ?_ ?_ <;> simp +decide only [w_lookup_nil, w_lookup_cons, ch_ch, ch_lit, lit_ch, wkT, wkH, wkB, WVL, WV_refl', Int.natCast_zero, Int.natCast_add, Int.natCast_one, Nat.sub_self, Nat.sub_zero, List.replicate_zero, List.take_zero, List.nil_append, List.append_nil, fillC_zero, Nat.reduceDiv, Nat.reduceAdd, upd_bk, bk_at, getB_zero, getB_succ, modB_zero, modB_succ, rows_lit, repB_zero, repB_succ, List.length_cons, List.length_nil, upd_upd_same, upd_apply, mk_tmp, mk_heap, mk_gen, lookupA, lookupH, List.getD_cons_zero, List.getD_cons_succ, init_two, tops, Bool.true_and, and_self, and_true, true_and, true_or, if_true, if_false, ite_true, ite_false, reduceCtorEq, reduceIte, famC_nil, famH_nil, List.length_nil, List.flatten_nil, mapC_nil]
    exact WV_nl (blk := ⟨1, 1, []⟩) rfl rfl rfl rfl
  rintro ⟨⟨k, gA, G, gs⟩, k1⟩
  have k1' : k ≤ n := k1
  by_cases hlt : k < n
  · have hltI : (k : Int) < (n : Int) := by omega
    have wk : IntKind.i64.wrap ((k : Int) + 1) = ((k + 1 : Nat) : Int) := wrap64 (by omega) (by omega)
    have h24 : (k + 1) * 24 ≤ 140737488355328 := by omega
    simp (config := { maxSteps := 1000000 }) +decide only [NoH, Old, OldL, nilQ, nilA, asgn, nz, RechL, ReY, isNew, stepO, XPost, postN, XOk, updN, updU, isEff, avalue, aeff, ASt.eval, ASt.put, ASt.set, ASt.new, Nat.reduceDiv, Nat.reduceAdd, Int.reduceToNat, absV, absC, scalar, alen, acap, conc, flats, live, blkOf, aload, rd, part?, afieldAddr, afield, aindexAddr, cellsOf, afill, places, abuild, optI, asliceV, asliceS, szOk, srcCells, aappend, acopy, astore, amakeSlice, abuildSlice, snapL, mapO, treeL, AVal.tree, AVal.flatT, isFlat, ares, isFz, afroz, afrozB, lookupA, lookupH, tops, if_true, if_false, reduceCtorEq, forall_const, ite_true, ite_false, implies_true, walkS, tabS, Tryd.results27, eq_true hltI, hlt, h0, h0I, l0, u1]
    refine callX (denx_Repeat 200000 n hn1 (by omega)) (by simp (config := { maxSteps := 1000000 }) +decide only [NoH, Old, OldL, nilQ, nilA, asgn, nz, RechL, ReY, isNew, stepO, XPost, postN, XOk, updN, updU, isEff, avalue, aeff, ASt.eval, ASt.put, ASt.set, ASt.new, Nat.reduceDiv, Nat.reduceAdd, Int.reduceToNat, absV, absC, scalar, alen, acap, conc, flats, live, blkOf, aload, rd, part?, afieldAddr, afield, aindexAddr, cellsOf, afill, places, abuild, optI, asliceV, asliceS, szOk, srcCells, aappend, acopy, astore, amakeSlice, abuildSlice, snapL, mapO, treeL, AVal.tree, AVal.flatT, isFlat, ares, isFz, afroz, afrozB, lookupA, lookupH, tops, if_true, if_false, reduceCtorEq, forall_const, ite_true, ite_false, implies_true, walkS, tabS, Tryd.results27, famS, famS2, famS3]) ?_
    simp (config := { maxSteps := 1000000 }) +decide only [NoH, Old, OldL, nilQ, nilA, asgn, nz, RechL, ReY, isNew, stepO, XPost, postN, XOk, updN, updU, isEff, avalue, aeff, ASt.eval, ASt.put, ASt.set, ASt.new, Nat.reduceDiv, Nat.reduceAdd, Int.reduceToNat, absV, absC, scalar, alen, acap, conc, flats, live, blkOf, aload, rd, part?, afieldAddr, afield, aindexAddr, cellsOf, afill, places, abuild, optI, asliceV, asliceS, szOk, srcCells, aappend, acopy, astore, amakeSlice, abuildSlice, snapL, mapO, treeL, AVal.tree, AVal.flatT, isFlat, ares, isFz, afroz, afrozB, lookupA, lookupH, tops, if_true, if_false, reduceCtorEq, forall_const, ite_true, ite_false, implies_true, walkS, tabS, Tryd.results27, hlt, h24, wk, List.replicate_succ, List.flatten_cons, List.flatten_nil, List.length_replicate, famS, famS2, famS3]
    refine ⟨⟨(k + 1, G + 1, G + 1 + 1, upd gs k G), hlt⟩, ?_, by show n - (k + 1) < n - k; omega⟩
    have er : List.replicate (k + 1) (List.replicate n (200000 : Int)) = List.replicate k (List.replicate n 200000) ++ [List.replicate n 200000] := List.replicate_succ' ..
    have ec := famC_snoc (ν := 23) (gs := gs) (ls := List.replicate k (List.replicate n (200000 : Int))) (List.replicate n 200000) G
    simp only [List.length_replicate] at ec
    refine weak_mk rfl (by first | exact Nat.le_refl _ | (simp only [mk_gen]; omega)) ?_ ?_ <;> simp +decide only [w_lookup_nil, w_lookup_cons, ch_ch, ch_lit, lit_ch, wkT, wkH, wkB, WVL, WV_refl', Int.natCast_zero, Int.natCast_add, Int.natCast_one, Nat.sub_self, Nat.sub_zero, List.replicate_zero, List.take_zero, List.nil_append, List.append_nil, fillC_zero, Nat.reduceDiv, Nat.reduceAdd, upd_bk, bk_at, getB_zero, getB_succ, modB_zero, modB_succ, rows_lit, repB_zero, repB_succ, List.length_cons, List.length_nil, upd_upd_same, upd_apply, mk_tmp, mk_heap, mk_gen, lookupA, lookupH, List.getD_cons_zero, List.getD_cons_succ, init_two, tops, Bool.true_and, and_self, and_true, true_and, true_or, if_true, if_false, ite_true, ite_false, reduceCtorEq, reduceIte, er, ec]
    refine fam_allf fun j hj => ?_
    have hj2 : j < k + 1 := by simpa using hj
    have e7 : (List.replicate k (List.replicate n (200000 : Int)) ++ [List.replicate n 200000])[j] = List.replicate n 200000 := by
      rw [List.getElem_append]
      split <;> simp
    by_cases ej : j = k
    · subst ej
      have e5 : upd gs j G j = G := by simp [upd]
      simp (config := { maxSteps := 1000000 }) +decide only [NoH, Old, OldL, nilQ, nilA, asgn, nz, RechL, ReY, isNew, stepO, XPost, postN, XOk, updN, updU, isEff, avalue, aeff, ASt.eval, ASt.put, ASt.set, ASt.new, Nat.reduceDiv, Nat.reduceAdd, Int.reduceToNat, absV, absC, scalar, alen, acap, conc, flats, live, blkOf, aload, rd, part?, afieldAddr, afield, aindexAddr, cellsOf, afill, places, abuild, optI, asliceV, asliceS, szOk, srcCells, aappend, acopy, astore, amakeSlice, abuildSlice, snapL, mapO, treeL, AVal.tree, AVal.flatT, isFlat, ares, isFz, afroz, afrozB, lookupA, lookupH, tops, if_true, if_false, reduceCtorEq, forall_const, ite_true, ite_false, implies_true, walkS, tabS, Tryd.results27, e5, e7]
    · have hj3 : j < (List.replicate k (List.replicate n (200000 : Int))).length := by simp; omega
      have e5 : upd gs k G j = gs j := by simp [upd, ej]
      have e6 := famH_at (f := AVal.i) (ν := 23) (gs := gs) hj3
      simp (config := { maxSteps := 1000000 }) +decide only [NoH, Old, OldL, nilQ, nilA, asgn, nz, RechL, ReY, isNew, stepO, XPost, postN, XOk, updN, updU, isEff, avalue, aeff, ASt.eval, ASt.put, ASt.set, ASt.new, Nat.reduceDiv, Nat.reduceAdd, Int.reduceToNat, absV, absC, scalar, alen, acap, conc, flats, live, blkOf, aload, rd, part?, afieldAddr, afield, aindexAddr, cellsOf, afill, places, abuild, optI, asliceV, asliceS, szOk, srcCells, aappend, acopy, astore, amakeSlice, abuildSlice, snapL, mapO, treeL, AVal.tree, AVal.flatT, isFlat, ares, isFz, afroz, afrozB, lookupA, lookupH, tops, if_true, if_false, reduceCtorEq, forall_const, ite_true, ite_false, implies_true, walkS, tabS, Tryd.results27, e5, e7, ej, e6, List.getElem_replicate]
  have e : k = n := by omega
  subst e
  have hltI : ¬ (k : Int) < (k : Int) := by omega
  simp (config := { maxSteps := 1000000 }) +decide only [NoH, Old, OldL, nilQ, nilA, asgn, nz, RechL, ReY, isNew, stepO, XPost, postN, XOk, updN, updU, isEff, avalue, aeff, ASt.eval, ASt.put, ASt.set, ASt.new, Nat.reduceDiv, Nat.reduceAdd, Int.reduceToNat, absV, absC, scalar, alen, acap, conc, flats, live, blkOf, aload, rd, part?, afieldAddr, afield, aindexAddr, cellsOf, afill, places, abuild, optI, asliceV, asliceS, szOk, srcCells, aappend, acopy, astore, amakeSlice, abuildSlice, snapL, mapO, treeL, AVal.tree, AVal.flatT, isFlat, ares, isFz, afroz, afrozB, lookupA, lookupH, tops, if_true, if_false, reduceCtorEq, forall_const, ite_true, ite_false, implies_true, walkS, tabS, Tryd.results27, eq_false hltI, matI_const]
  refine ex_loop (fun p : {p : Nat × (Nat → Nat → Int) × Nat // p.1 ≤ R.length ∧ PQ R k p.1 0 p.2.1} => mkG (ghs [(21, ch 23 k)] [16, 22]) [(3, .own 23 gA 0 k), (25, intss R), (26, .i R.length), (27, .i p.1.1)] ((23, ⟨gA, 1, famC 23 gs (matI p.1.2.1 k)⟩) :: famHf AVal.i 23 gs (matI p.1.2.1 k)) p.1.2.2 66) (fun p => R.length - p.1.1) ⟨(0, fun _ _ => 200000, G), Nat.zero_le _, fun _ _ => ⟨by show (-200000 : Int) ≤ 200000; omega, by show (200000 : Int) ≤ 200000; omega⟩, fun j hj => absurd hj (Nat.not_lt_zero _), fun j hj => absurd hj (Nat.not_lt_zero _)⟩ ?_ ?_
  · refine weak_mk rfl (by first | exact Nat.le_refl _ | (simp only [mk_gen]; omega)) ?_ ?_ <;> simp +decide only [w_lookup_nil, w_lookup_cons, ch_ch, ch_lit, lit_ch, wkT, wkH, wkB, WVL, WV_refl', Int.natCast_zero, Int.natCast_add, Int.natCast_one, Nat.sub_self, Nat.sub_zero, List.replicate_zero, List.take_zero, List.nil_append, List.append_nil, fillC_zero, Nat.reduceDiv, Nat.reduceAdd, upd_bk, bk_at, getB_zero, getB_succ, modB_zero, modB_succ, rows_lit, repB_zero, repB_succ, List.length_cons, List.length_nil, upd_upd_same, upd_apply, mk_tmp, mk_heap, mk_gen, lookupA, lookupH, List.getD_cons_zero, List.getD_cons_succ, init_two, tops, Bool.true_and, and_self, and_true, true_and, true_or, if_true, if_false, ite_true, ite_false, reduceCtorEq, reduceIte]
    refine fam_allf fun j hj => ?_
    simp (config := { maxSteps := 1000000 }) +decide only [NoH, Old, OldL, nilQ, nilA, asgn, nz, RechL, ReY, isNew, stepO, XPost, postN, XOk, updN, updU, isEff, avalue, aeff, ASt.eval, ASt.put, ASt.set, ASt.new, Nat.reduceDiv, Nat.reduceAdd, Int.reduceToNat, absV, absC, scalar, alen, acap, conc, flats, live, blkOf, aload, rd, part?, afieldAddr, afield, aindexAddr, cellsOf, afill, places, abuild, optI, asliceV, asliceS, szOk, srcCells, aappend, acopy, astore, amakeSlice, abuildSlice, snapL, mapO, treeL, AVal.tree, AVal.flatT, isFlat, ares, isFz, afroz, afrozB, lookupA, lookupH, tops, if_true, if_false, reduceCtorEq, forall_const, ite_true, ite_false, implies_true, walkS, tabS, Tryd.results27, famH_at (f := AVal.i) (ν := 23) (gs := gs) hj]
  rintro ⟨⟨m, q, G3⟩, m1, m2⟩
  have m1' : m ≤ R.length := m1
  have m2' : PQ R k m 0 q := m2
  have lq := matI_len q k
  by_cases mlt : m < R.length
  case neg =>
    have em : m = R.length := by omega
    subst em
    have mltI : ¬ (R.length : Int) < (R.length : Int) := by omega
    have hA : treeL (mapC (lstC AVal.i) (matI q k)) = true := treeL_mapC _ _ fun r => treeL_mapC _ _ fun _ => rfl
    simp (config := { maxSteps := 1000000 }) +decide only [NoH, Old, OldL, nilQ, nilA, asgn, nz, RechL, ReY, isNew, stepO, XPost, postN, XOk, updN, updU, isEff, avalue, aeff, ASt.eval, ASt.put, ASt.set, ASt.new, Nat.reduceDiv, Nat.reduceAdd, Int.reduceToNat, absV, absC, scalar, alen, acap, conc, flats, live, blkOf, aload, rd, part?, afieldAddr, afield, aindexAddr, cellsOf, afill, places, abuild, optI, asliceV, asliceS, szOk, srcCells, aappend, acopy, astore, amakeSlice, abuildSlice, snapL, mapO, treeL, AVal.tree, AVal.flatT, isFlat, ares, isFz, afroz, afrozB, lookupA, lookupH, tops, if_true, if_false, reduceCtorEq, forall_const, ite_true, ite_false, implies_true, walkS, tabS, Tryd.results27, eq_false mltI]
    refine yretW (s' := mkG (ghs [(21, ch 23 k)] [16, 22]) [(2, .lst (mapC ints (matI q k)) k)] [] G3 66) (.step (s' := mkG (ghs [(21, ch 23 k)] [16, 22]) [(2, .own 23 gA 0 k)] [(23, ⟨gA, 1, mapC (lstC AVal.i) (matI q k)⟩)] G3 66) ?_ (.step ?_ (.refl _))) q m2' ?_
    · refine weak_mk rfl (by first | exact Nat.le_refl _ | (simp only [mk_gen]; omega)) ?_ ?_ <;> simp +decide only [w_lookup_nil, w_lookup_cons, ch_ch, ch_lit, lit_ch, wkT, wkH, wkB, WVL, WV_refl', Int.natCast_zero, Int.natCast_add, Int.natCast_one, Nat.sub_self, Nat.sub_zero, List.replicate_zero, List.take_zero, List.nil_append, List.append_nil, fillC_zero, Nat.reduceDiv, Nat.reduceAdd, upd_bk, bk_at, getB_zero, getB_succ, modB_zero, modB_succ, rows_lit, repB_zero, repB_succ, List.length_cons, List.length_nil, upd_upd_same, upd_apply, mk_tmp, mk_heap, mk_gen, lookupA, lookupH, List.getD_cons_zero, List.getD_cons_succ, init_two, tops, Bool.true_and, and_self, and_true, true_and, true_or, if_true, if_false, ite_true, ite_false, reduceCtorEq, reduceIte, hA]
      refine .inr (WVL_fam (fun _ => rfl) (fun j hj => ?_) fun j => ?_)
      · simp (config := { maxSteps := 1000000 }) +decide only [NoH, Old, OldL, nilQ, nilA, asgn, nz, RechL, ReY, isNew, stepO, XPost, postN, XOk, updN, updU, isEff, avalue, aeff, ASt.eval, ASt.put, ASt.set, ASt.new, Nat.reduceDiv, Nat.reduceAdd, Int.reduceToNat, absV, absC, scalar, alen, acap, conc, flats, live, blkOf, aload, rd, part?, afieldAddr, afield, aindexAddr, cellsOf, afill, places, abuild, optI, asliceV, asliceS, szOk, srcCells, aappend, acopy, astore, amakeSlice, abuildSlice, snapL, mapO, treeL, AVal.tree, AVal.flatT, isFlat, ares, isFz, afroz, afrozB, lookupA, lookupH, tops, if_true, if_false, reduceCtorEq, forall_const, ite_true, ite_false, implies_true, walkS, tabS, Tryd.results27, famH_at hj]
      · simp (config := { maxSteps := 1000000 }) +decide only [NoH, Old, OldL, nilQ, nilA, asgn, nz, RechL, ReY, isNew, stepO, XPost, postN, XOk, updN, updU, isEff, avalue, aeff, ASt.eval, ASt.put, ASt.set, ASt.new, Nat.reduceDiv, Nat.reduceAdd, Int.reduceToNat, absV, absC, scalar, alen, acap, conc, flats, live, blkOf, aload, rd, part?, afieldAddr, afield, aindexAddr, cellsOf, afill, places, abuild, optI, asliceV, asliceS, szOk, srcCells, aappend, acopy, astore, amakeSlice, abuildSlice, snapL, mapO, treeL, AVal.tree, AVal.flatT, isFlat, ares, isFz, afroz, afrozB, lookupA, lookupH, tops, if_true, if_false, reduceCtorEq, forall_const, ite_true, ite_false, implies_true, walkS, tabS, Tryd.results27]
    · refine weak_mk rfl (by first | exact Nat.le_refl _ | (simp only [mk_gen]; omega)) ?_ ?_ <;> simp +decide only [w_lookup_nil, w_lookup_cons, ch_ch, ch_lit, lit_ch, wkT, wkH, wkB, WVL, WV_refl', Int.natCast_zero, Int.natCast_add, Int.natCast_one, Nat.sub_self, Nat.sub_zero, List.replicate_zero, List.take_zero, List.nil_append, List.append_nil, fillC_zero, Nat.reduceDiv, Nat.reduceAdd, upd_bk, bk_at, getB_zero, getB_succ, modB_zero, modB_succ, rows_lit, repB_zero, repB_succ, List.length_cons, List.length_nil, upd_upd_same, upd_apply, mk_tmp, mk_heap, mk_gen, lookupA, lookupH, List.getD_cons_zero, List.getD_cons_succ, init_two, tops, Bool.true_and, and_self, and_true, true_and, true_or, if_true, if_false, ite_true, ite_false, reduceCtorEq, reduceIte, hA]
      exact WV_frz rfl rfl rfl (by simp [len_mapC, lq]) (by rw [List.drop_zero]; exact (List.take_of_length_le (by rw [len_mapC, lq]; simp)).symm) hA
    · simp (config := { maxSteps := 1000000 }) +decide only [NoH, Old, OldL, nilQ, nilA, asgn, nz, RechL, ReY, isNew, stepO, XPost, postN, XOk, updN, updU, isEff, avalue, aeff, ASt.eval, ASt.put, ASt.set, ASt.new, Nat.reduceDiv, Nat.reduceAdd, Int.reduceToNat, absV, absC, scalar, alen, acap, conc, flats, live, blkOf, aload, rd, part?, afieldAddr, afield, aindexAddr, cellsOf, afill, places, abuild, optI, asliceV, asliceS, szOk, srcCells, aappend, acopy, astore, amakeSlice, abuildSlice, snapL, mapO, treeL, AVal.tree, AVal.flatT, isFlat, ares, isFz, afroz, afrozB, lookupA, lookupH, tops, if_true, if_false, reduceCtorEq, forall_const, ite_true, ite_false, implies_true, walkS, tabS, Tryd.results27, hA]
      exact lq.symm
  have mltI : (m : Int) < (R.length : Int) := by omega
  have wm : IntKind.i64.wrap ((m : Int) + 1) = ((m + 1 : Nat) : Int) := wrap64 (by omega) (by omega)
  have hrow := h.at mlt
  have hlen := hrow.len
  have hs := (sv_is (row := R[m]) (by omega)).1
  have dsv := den_serverOf (row := R[m]) (by omega)
  have eR := gDr mlt
  simp (config := { maxSteps := 1000000 }) +decide only [NoH, Old, OldL, nilQ, nilA, asgn, nz, RechL, ReY, isNew, stepO, XPost, postN, XOk, updN, updU, isEff, avalue, aeff, ASt.eval, ASt.put, ASt.set, ASt.new, Nat.reduceDiv, Nat.reduceAdd, Int.reduceToNat, absV, absC, scalar, alen, acap, conc, flats, live, blkOf, aload, rd, part?, afieldAddr, afield, aindexAddr, cellsOf, afill, places, abuild, optI, asliceV, asliceS, szOk, srcCells, aappend, acopy, astore, amakeSlice, abuildSlice, snapL, mapO, treeL, AVal.tree, AVal.flatT, isFlat, ares, isFz, afroz, afrozB, lookupA, lookupH, tops, if_true, if_false, reduceCtorEq, forall_const, ite_true, ite_false, implies_true, walkS, tabS, Tryd.results27, eq_true mltI, mlt]
  refine callK (dsv) (by first | exact .inl rfl | exact .inr rfl) ?_
  simp (config := { maxSteps := 1000000 }) +decide only [NoH, Old, OldL, nilQ, nilA, asgn, nz, RechL, ReY, isNew, stepO, XPost, postN, XOk, updN, updU, isEff, avalue, aeff, ASt.eval, ASt.put, ASt.set, ASt.new, Nat.reduceDiv, Nat.reduceAdd, Int.reduceToNat, absV, absC, scalar, alen, acap, conc, flats, live, blkOf, aload, rd, part?, afieldAddr, afield, aindexAddr, cellsOf, afill, places, abuild, optI, asliceV, asliceS, szOk, srcCells, aappend, acopy, astore, amakeSlice, abuildSlice, snapL, mapO, treeL, AVal.tree, AVal.flatT, isFlat, ares, isFz, afroz, afrozB, lookupA, lookupH, tops, if_true, if_false, reduceCtorEq, forall_const, ite_true, ite_false, implies_true, walkS, tabS, Tryd.results27, hlen]
  refine ex_loop (fun p : {p : Nat × (Nat → Nat → Int) × Nat // p.1 ≤ k ∧ PQ R k m p.1 p.2.1} => mkG (ghs [(21, ch 23 k)] [16, 22]) [(3, .own 23 gA 0 k), (5, ints R[m]), (6, .i (sv R[m])), (25, intss R), (26, .i R.length), (27, .i m), (33, ints R[m]), (34, .i k), (35, .i p.1.1)] ((23, ⟨gA, 1, famC 23 gs (matI p.1.2.1 k)⟩) :: famHf AVal.i 23 gs (matI p.1.2.1 k)) p.1.2.2 66) (fun p => k - p.1.1) ⟨(0, q, G3), Nat.zero_le _, m2'⟩ ?_ ?_
  · refine weak_mk rfl (by first | exact Nat.le_refl _ | (simp only [mk_gen]; omega)) ?_ ?_ <;> simp +decide only [w_lookup_nil, w_lookup_cons, ch_ch, ch_lit, lit_ch, wkT, wkH, wkB, WVL, WV_refl', Int.natCast_zero, Int.natCast_add, Int.natCast_one, Nat.sub_self, Nat.sub_zero, List.replicate_zero, List.take_zero, List.nil_append, List.append_nil, fillC_zero, Nat.reduceDiv, Nat.reduceAdd, upd_bk, bk_at, getB_zero, getB_succ, modB_zero, modB_succ, rows_lit, repB_zero, repB_succ, List.length_cons, List.length_nil, upd_upd_same, upd_apply, mk_tmp, mk_heap, mk_gen, lookupA, lookupH, List.getD_cons_zero, List.getD_cons_succ, init_two, tops, Bool.true_and, and_self, and_true, true_and, true_or, if_true, if_false, ite_true, ite_false, reduceCtorEq, reduceIte, hlen]
    refine fam_allf fun j hj => ?_
    simp (config := { maxSteps := 1000000 }) +decide only [NoH, Old, OldL, nilQ, nilA, asgn, nz, RechL, ReY, isNew, stepO, XPost, postN, XOk, updN, updU, isEff, avalue, aeff, ASt.eval, ASt.put, ASt.set, ASt.new, Nat.reduceDiv, Nat.reduceAdd, Int.reduceToNat, absV, absC, scalar, alen, acap, conc, flats, live, blkOf, aload, rd, part?, afieldAddr, afield, aindexAddr, cellsOf, afill, places, abuild, optI, asliceV, asliceS, szOk, srcCells, aappend, acopy, astore, amakeSlice, abuildSlice, snapL, mapO, treeL, AVal.tree, AVal.flatT, isFlat, ares, isFz, afroz, afrozB, lookupA, lookupH, tops, if_true, if_false, reduceCtorEq, forall_const, ite_true, ite_false, implies_true, walkS, tabS, Tryd.results27, famH_at (f := AVal.i) (ν := 23) (gs := gs) hj]
  rintro ⟨⟨j, q, G4⟩, j1, j2⟩
  have j1' : j ≤ k := j1
  have j2' : PQ R k m j q := j2
  by_cases jlt : j < k
  case neg =>
    have ej : j = k := by omega
    subst ej
    have jltI : ¬ (j : Int) < (j : Int) := by omega
    simp (config := { maxSteps := 1000000 }) +decide only [NoH, Old, OldL, nilQ, nilA, asgn, nz, RechL, ReY, isNew, stepO, XPost, postN, XOk, updN, updU, isEff, avalue, aeff, ASt.eval, ASt.put, ASt.set, ASt.new, Nat.reduceDiv, Nat.reduceAdd, Int.reduceToNat, absV, absC, scalar, alen, acap, conc, flats, live, blkOf, aload, rd, part?, afieldAddr, afield, aindexAddr, cellsOf, afill, places, abuild, optI, asliceV, asliceS, szOk, srcCells, aappend, acopy, astore, amakeSlice, abuildSlice, snapL, mapO, treeL, AVal.tree, AVal.flatT, isFlat, ares, isFz, afroz, afrozB, lookupA, lookupH, tops, if_true, if_false, reduceCtorEq, forall_const, ite_true, ite_false, implies_true, walkS, tabS, Tryd.results27, eq_false jltI, wm]
    refine ⟨⟨(m + 1, q, G4), mlt, j2'.next⟩, ?_, by show R.length - (m + 1) < R.length - m; omega⟩
    refine weak_mk rfl (by first | exact Nat.le_refl _ | (simp only [mk_gen]; omega)) ?_ ?_ <;> simp +decide only [w_lookup_nil, w_lookup_cons, ch_ch, ch_lit, lit_ch, wkT, wkH, wkB, WVL, WV_refl', Int.natCast_zero, Int.natCast_add, Int.natCast_one, Nat.sub_self, Nat.sub_zero, List.replicate_zero, List.take_zero, List.nil_append, List.append_nil, fillC_zero, Nat.reduceDiv, Nat.reduceAdd, upd_bk, bk_at, getB_zero, getB_succ, modB_zero, modB_succ, rows_lit, repB_zero, repB_succ, List.length_cons, List.length_nil, upd_upd_same, upd_apply, mk_tmp, mk_heap, mk_gen, lookupA, lookupH, List.getD_cons_zero, List.getD_cons_succ, init_two, tops, Bool.true_and, and_self, and_true, true_and, true_or, if_true, if_false, ite_true, ite_false, reduceCtorEq, reduceIte]
    refine fam_allf fun a ha => ?_
    simp (config := { maxSteps := 1000000 }) +decide only [NoH, Old, OldL, nilQ, nilA, asgn, nz, RechL, ReY, isNew, stepO, XPost, postN, XOk, updN, updU, isEff, avalue, aeff, ASt.eval, ASt.put, ASt.set, ASt.new, Nat.reduceDiv, Nat.reduceAdd, Int.reduceToNat, absV, absC, scalar, alen, acap, conc, flats, live, blkOf, aload, rd, part?, afieldAddr, afield, aindexAddr, cellsOf, afill, places, abuild, optI, asliceV, asliceS, szOk, srcCells, aappend, acopy, astore, amakeSlice, abuildSlice, snapL, mapO, treeL, AVal.tree, AVal.flatT, isFlat, ares, isFz, afroz, afrozB, lookupA, lookupH, tops, if_true, if_false, reduceCtorEq, forall_const, ite_true, ite_false, implies_true, walkS, tabS, Tryd.results27, famH_at (f := AVal.i) (ν := 23) (gs := gs) ha]
  have jltI : (j : Int) < (k : Int) := by omega
  have wj : IntKind.i64.wrap ((j : Int) + 1) = ((j + 1 : Nat) : Int) := wrap64 (by omega) (by omega)
  have hjr : j < R[m].length := by omega
  have hjrI : (j : Int) < (R[m].length : Int) := by omega
  by_cases es : j = sv R[m]
  · have esI : (j : Int) = ((sv R[m] : Nat) : Int) := by omega
    simp (config := { maxSteps := 1000000 }) +decide only [NoH, Old, OldL, nilQ, nilA, asgn, nz, RechL, ReY, isNew, stepO, XPost, postN, XOk, updN, updU, isEff, avalue, aeff, ASt.eval, ASt.put, ASt.set, ASt.new, Nat.reduceDiv, Nat.reduceAdd, Int.reduceToNat, absV, absC, scalar, alen, acap, conc, flats, live, blkOf, aload, rd, part?, afieldAddr, afield, aindexAddr, cellsOf, afill, places, abuild, optI, asliceV, asliceS, szOk, srcCells, aappend, acopy, astore, amakeSlice, abuildSlice, snapL, mapO, treeL, AVal.tree, AVal.flatT, isFlat, ares, isFz, afroz, afrozB, lookupA, lookupH, tops, if_true, if_false, reduceCtorEq, forall_const, ite_true, ite_false, implies_true, walkS, tabS, Tryd.results27, eq_true jltI, hjr, hjrI, eq_true es, eq_true esI, wj]
    refine ⟨⟨(j + 1, q, G4), jlt, j2'.skip (by rw [eR]; exact es)⟩, ?_, by show k - (j + 1) < k - j; omega⟩
    refine weak_mk rfl (by first | exact Nat.le_refl _ | (simp only [mk_gen]; omega)) ?_ ?_ <;> simp +decide only [w_lookup_nil, w_lookup_cons, ch_ch, ch_lit, lit_ch, wkT, wkH, wkB, WVL, WV_refl', Int.natCast_zero, Int.natCast_add, Int.natCast_one, Nat.sub_self, Nat.sub_zero, List.replicate_zero, List.take_zero, List.nil_append, List.append_nil, fillC_zero, Nat.reduceDiv, Nat.reduceAdd, upd_bk, bk_at, getB_zero, getB_succ, modB_zero, modB_succ, rows_lit, repB_zero, repB_succ, List.length_cons, List.length_nil, upd_upd_same, upd_apply, mk_tmp, mk_heap, mk_gen, lookupA, lookupH, List.getD_cons_zero, List.getD_cons_succ, init_two, tops, Bool.true_and, and_self, and_true, true_and, true_or, if_true, if_false, ite_true, ite_false, reduceCtorEq, reduceIte]
    refine fam_allf fun a ha => ?_
    simp (config := { maxSteps := 1000000 }) +decide only [NoH, Old, OldL, nilQ, nilA, asgn, nz, RechL, ReY, isNew, stepO, XPost, postN, XOk, updN, updU, isEff, avalue, aeff, ASt.eval, ASt.put, ASt.set, ASt.new, Nat.reduceDiv, Nat.reduceAdd, Int.reduceToNat, absV, absC, scalar, alen, acap, conc, flats, live, blkOf, aload, rd, part?, afieldAddr, afield, aindexAddr, cellsOf, afill, places, abuild, optI, asliceV, asliceS, szOk, srcCells, aappend, acopy, astore, amakeSlice, abuildSlice, snapL, mapO, treeL, AVal.tree, AVal.flatT, isFlat, ares, isFz, afroz, afrozB, lookupA, lookupH, tops, if_true, if_false, reduceCtorEq, forall_const, ite_true, ite_false, implies_true, walkS, tabS, Tryd.results27, famH_at (f := AVal.i) (ν := 23) (gs := gs) ha]
  have esI : ¬ (j : Int) = ((sv R[m] : Nat) : Int) := by omega
  have bs := hrow.bd _ (List.getElem_mem hs)
  have bj := hrow.bd _ (List.getElem_mem hjr)
  have put := j2'.put (v := R[m][sv R[m]] - R[m][j]) (by rw [eR, gD hs, gD hjr]) (by omega)
  rw [eR] at put
  have hsk : sv R[m] < k := by omega
  have hsI : ((sv R[m] : Nat) : Int) < (R[m].length : Int) := by omega
  have hskI : ((sv R[m] : Nat) : Int) < (k : Int) := by omega
  generalize sv R[m] = i at *
  have w1 : IntKind.i64.wrap (R[m][i] - R[m][j]) = R[m][i] - R[m][j] := wrap64 (by omega) (by omega)
  have c1 := matI_cell (ν := 23) (gs := gs) (q := q) hsk
  have a1 := matI_at (ν := 23) (gs := gs) (q := q) hsk
  have l0' := matI_len q k
  have cj := rowI_cell0 (q := q i) jlt
  have gj := rowI_get (q i) k j (by rw [rowI_len]; exact jlt)
  simp (config := { maxSteps := 1000000 }) +decide only [NoH, Old, OldL, nilQ, nilA, asgn, nz, RechL, ReY, isNew, stepO, XPost, postN, XOk, updN, updU, isEff, avalue, aeff, ASt.eval, ASt.put, ASt.set, ASt.new, Nat.reduceDiv, Nat.reduceAdd, Int.reduceToNat, absV, absC, scalar, alen, acap, conc, flats, live, blkOf, aload, rd, part?, afieldAddr, afield, aindexAddr, cellsOf, afill, places, abuild, optI, asliceV, asliceS, szOk, srcCells, aappend, acopy, astore, amakeSlice, abuildSlice, snapL, mapO, treeL, AVal.tree, AVal.flatT, isFlat, ares, isFz, afroz, afrozB, lookupA, lookupH, tops, if_true, if_false, reduceCtorEq, forall_const, ite_true, ite_false, implies_true, walkS, tabS, Tryd.results27, eq_true jltI, hjr, hjrI, eq_false es, eq_false esI, hs, hsI, hsk, hskI, jlt, jltI, c1, a1, l0', rowI_len, len_famC, cj, gj, w1, sem_min, wj, famS, famS2, famS3]
  refine ⟨⟨(j + 1, put2 q i j (min (q i j) (R[m][i] - R[m][j])), G4), jlt, put⟩, ?_, by show k - (j + 1) < k - j; omega⟩
  have ef := famC_matI (ν := 23) (gs := gs) (put2 q i j (min (q i j) (R[m][i] - R[m][j]))) q k
  refine weak_mk rfl (by first | exact Nat.le_refl _ | (simp only [mk_gen]; omega)) ?_ ?_ <;> simp +decide only [w_lookup_nil, w_lookup_cons, ch_ch, ch_lit, lit_ch, wkT, wkH, wkB, WVL, WV_refl', Int.natCast_zero, Int.natCast_add, Int.natCast_one, Nat.sub_self, Nat.sub_zero, List.replicate_zero, List.take_zero, List.nil_append, List.append_nil, fillC_zero, Nat.reduceDiv, Nat.reduceAdd, upd_bk, bk_at, getB_zero, getB_succ, modB_zero, modB_succ, rows_lit, repB_zero, repB_succ, List.length_cons, List.length_nil, upd_upd_same, upd_apply, mk_tmp, mk_heap, mk_gen, lookupA, lookupH, List.getD_cons_zero, List.getD_cons_succ, init_two, tops, Bool.true_and, and_self, and_true, true_and, true_or, if_true, if_false, ite_true, ite_false, reduceCtorEq, reduceIte, ef]
  refine fam_allf fun a ha => ?_
  have ha2 : a < k := by rw [matI_len] at ha; exact ha
  have er : (matI (put2 q i j (min (q i j) (R[m][i] - R[m][j]))) k)[a] = if a = i then (rowI (q i) k).set j (min (q i j) (R[m][i] - R[m][j])) else rowI (q a) k := by
    rw [matI_get]
    by_cases ei : a = i
    · subst ei
      rw [if_pos rfl, put2_row]
    · rw [if_neg ei, put2_other _ _ _ ei]
  have ea := matI_at (ν := 23) (gs := gs) (q := q) ha2
  rw [er]
  by_cases ei : a = i
  · subst ei
    simp (config := { maxSteps := 1000000 }) +decide only [NoH, Old, OldL, nilQ, nilA, asgn, nz, RechL, ReY, isNew, stepO, XPost, postN, XOk, updN, updU, isEff, avalue, aeff, ASt.eval, ASt.put, ASt.set, ASt.new, Nat.reduceDiv, Nat.reduceAdd, Int.reduceToNat, absV, absC, scalar, alen, acap, conc, flats, live, blkOf, aload, rd, part?, afieldAddr, afield, aindexAddr, cellsOf, afill, places, abuild, optI, asliceV, asliceS, szOk, srcCells, aappend, acopy, astore, amakeSlice, abuildSlice, snapL, mapO, treeL, AVal.tree, AVal.flatT, isFlat, ares, isFz, afroz, afrozB, lookupA, lookupH, tops, if_true, if_false, reduceCtorEq, forall_const, ite_true, ite_false, implies_true, walkS, tabS, Tryd.results27, eq_true rfl]
  · simp (config := { maxSteps := 1000000 }) +decide only [NoH, Old, OldL, nilQ, nilA, asgn, nz, RechL, ReY, isNew, stepO, XPost, postN, XOk, updN, updU, isEff, avalue, aeff, ASt.eval, ASt.put, ASt.set, ASt.new, Nat.reduceDiv, Nat.reduceAdd, Int.reduceToNat, absV, absC, scalar, alen, acap, conc, flats, live, blkOf, aload, rd, part?, afieldAddr, afield, aindexAddr, cellsOf, afill, places, abuild, optI, asliceV, asliceS, szOk, srcCells, aappend, acopy, astore, amakeSlice, abuildSlice, snapL, mapO, treeL, AVal.tree, AVal.flatT, isFlat, ares, isFz, afroz, afrozB, lookupA, lookupH, tops, if_true, if_false, reduceCtorEq, forall_const, ite_true, ite_false, implies_true, walkS, tabS, Tryd.results27, ei, ea]
theorem first_of {α : Type} (p : α → Prop) (xs : List α) : (∃ j, ∃ hj : j < xs.length, p xs[j] ∧ ∀ i (h : i < xs.length), i < j → ¬ p xs[i]) ∨ ∀ i (h : i < xs.length), ¬ p xs[i] := by
  have key : ∀ n, n ≤ xs.length → (∃ j, ∃ hj : j < xs.length, p xs[j] ∧ ∀ i (h : i < xs.length), i < j → ¬ p xs[i]) ∨ ∀ i (h : i < xs.length), i < n → ¬ p xs[i] := by
    intro n
    induction n with
    | zero => exact fun _ => .inr fun i _ hi => absurd hi (Nat.not_lt_zero _)
    | succ n ih =>
      intro hn
      rcases ih (by omega) with h | q
      · exact .inl h
      · by_cases c : p (xs[n]'(by omega))
        · exact .inl ⟨n, by omega, c, q⟩
        · refine .inr fun i hi hin => ?_
          by_cases e : i = n
          · subst e; exact c
          · exact q i hi (by omega)
  rcases key xs.length (Nat.le_refl _) with h | q
  · exact .inl h
  · exact .inr fun i hi => q i hi hi
/-- the least difference of channels that weakens enough -/
noncomputable def ndV (T : List Int) (need : Int) : Int := if 0 ≤ idx (fun x => need ≤ x) T then idx (fun x => need ≤ x) T else T.length
theorem ndV_in {T : List Int} (need : Int) : 0 ≤ ndV T need ∧ ndV T need ≤ T.length := by
  unfold ndV
  rcases first_of (fun x => need ≤ x) T with ⟨j, hj, a, b⟩ | q
  · rw [idx_some hj b a, if_pos (by omega)]
    omega
  · rw [idx_none q, if_neg (by omega)]
    omega
theorem ndV_ok {T : List Int} (hT : TbOk T) {need : Int} {d : Nat} (hd : ndV T need ≤ d) (hl : d < T.length) : need ≤ T[d] := by
  unfold ndV at hd
  rcases first_of (fun x => need ≤ x) T with ⟨j, hj, a, b⟩ | q
  · rw [idx_some hj b a, if_pos (by omega)] at hd
    by_cases e : j = d
    · subst e; exact a
    · have := (List.pairwise_iff_getElem.1 hT.srt) j d hj hl (by omega)
      have a' : need ≤ T[j] := a
      omega
  · rw [idx_none q, if_neg (by omega)] at hd
    omega
noncomputable def ndA (q : Nat → Nat → Int) (target : Int) (T : List Int) (i k : Nat) : Int := if i = k then 0 else ndV T (target - min (q i k) (q k i))
theorem den_nm1 (x need : Int) : Den Tryd.prog 46 [.i x, .iptr [.i need] 0] (.b (bp (need ≤ x))) := by
  refine den_of_awp Tryd.func46 rfl (by kernel_rfl) (Nat.le_of_ble_eq_true rfl) (by simp only [treeL, AVal.tree, treeL_i, treeL_ints, treeL_u8, treeL_append, Bool.and_self, Bool.and_true, Bool.true_and]) (by first | rfl | simp only [treeL, AVal.tree, treeL_i, treeL_ints, treeL_u8, treeL_append, Bool.and_self, Bool.and_true, Bool.true_and]) mixed (by kernel_rfl) fun hl => ?_
  simp only [lensL, lens, lensL_i, lensL_mapC, maxI, and_true, true_and] at hl
  rw [Tryd.ntmps46]
  refine ex_start ?_
  simp (config := { maxSteps := 1000000 }) +decide only [NoH, Old, OldL, nilQ, nilA, asgn, nz, RechL, ReY, isNew, stepO, XPost, postN, XOk, updN, updU, isEff, avalue, aeff, ASt.eval, ASt.put, ASt.set, ASt.new, Nat.reduceDiv, Nat.reduceAdd, Int.reduceToNat, absV, absC, scalar, alen, acap, conc, flats, live, blkOf, aload, rd, part?, afieldAddr, afield, aindexAddr, cellsOf, afill, places, abuild, optI, asliceV, asliceS, szOk, srcCells, aappend, acopy, astore, amakeSlice, abuildSlice, snapL, mapO, treeL, AVal.tree, AVal.flatT, isFlat, ares, isFz, afroz, afrozB, lookupA, lookupH, tops, if_true, if_false, reduceCtorEq, forall_const, ite_true, ite_false, implies_true, walkS, tabS, Tryd.results46]
  exact (bp_decide _).symm
/-- a row while it is filled -/
noncomputable def ndR (q : Nat → Nat → Int) (target : Int) (T : List Int) (i j : Nat) : Nat → Int := fun b => if b < j then ndA q target T i b else 0
theorem ndR_set (q : Nat → Nat → Int) (target : Int) (T : List Int) (i j n : Nat) : (rowI (ndR q target T i j) n).set j (ndA q target T i j) = rowI (ndR q target T i (j + 1)) n := by
  rw [rowI_set]
  refine rowI_congr fun b _ => ?_
  unfold ndR
  by_cases e : b = j
  · subst e
    rw [if_pos rfl, if_pos (by omega)]
  · rw [if_neg e]
    by_cases c : b < j
    · rw [if_pos c, if_pos (by omega)]
    · rw [if_neg c, if_neg (by omega)]
theorem ndR_skip (q : Nat → Nat → Int) (target : Int) (T : List Int) (i n : Nat) : rowI (ndR q target T i i) n = rowI (ndR q target T i (i + 1)) n := by
  refine rowI_congr fun b _ => ?_
  unfold ndR
  by_cases e : b = i
  · subst e
    rw [if_neg (by omega), if_pos (by omega)]
    exact (if_pos rfl).symm
  · by_cases c : b < i
    · rw [if_pos c, if_pos (by omega)]
    · rw [if_neg c, if_neg (by omega)]
theorem ndR_all (q : Nat → Nat → Int) (target : Int) (T : List Int) (i n : Nat) : rowI (ndR q target T i n) n = rowI (ndA q target T i) n :=
  rowI_congr fun b hb => if_pos hb
theorem ndR_zero (q : Nat → Nat → Int) (target : Int) (T : List Int) (i n : Nat) : List.replicate n (0 : Int) = rowI (ndR q target T i 0) n := by
  refine List.ext_getElem (by rw [rowI_len, List.length_replicate]) fun k h3 h4 => ?_
  rw [rowI_get, List.getElem_replicate]
  exact (if_neg (Nat.not_lt_zero _)).symm
theorem matI_cellT {q : Nat → Nat → Int} {n i : Nat} (hi : i < n) : (mapC ints (matI q n))[i]? = some (ints (rowI (q i) n)) := by
  have : i < (matI q n).length := by rw [matI_len]; exact hi
  rw [get_mapC _ _ _ this, matI_get]
theorem rowI_cellT {q : Nat → Int} {n i : Nat} (hi : i < n) : (mapC AVal.i (rowI q n))[i]? = some (.i (q i)) := by
  have : i < (rowI q n).length := by rw [rowI_len]; exact hi
  rw [get_mapC _ _ _ this, rowI_get]
/-- the first rows of a table -/
noncomputable def matT (q : Nat → Nat → Int) (n m : Nat) : List (List Int) := (List.range m).map fun i => rowI (q i) n
theorem matT_len (q : Nat → Nat → Int) (n m : Nat) : (matT q n m).length = m := by simp [matT]
theorem matT_snoc (q : Nat → Nat → Int) (n m : Nat) : matT q n m ++ [rowI (q m) n] = matT q n (m + 1) := by
  unfold matT
  rw [List.range_succ, List.map_append]
  rfl
theorem matT_all (q : Nat → Nat → Int) (n : Nat) : matT q n n = matI q n := rfl
theorem den_needMatrix (q : Nat → Nat → Int) (n : Nat) (hn1 : 1 ≤ n) (hn5 : n ≤ 5) (hq : ∀ a b, -200000 ≤ q a b ∧ q a b ≤ 200000) (target : Int) (ht : -200000 ≤ target ∧ target ≤ 200000) {T : List Int} (hT : TbOk T) : Den Tryd.prog 26 [intss (matI q n), .i target, ints T] (intss (matI (ndA q target T) n)) := by
  refine den_of_awpG (ghs [] [63]) Tryd.func26 rfl (by kernel_rfl) (Nat.le_of_ble_eq_true rfl) (by simp only [treeL, AVal.tree, treeL_i, treeL_ints, treeL_u8, treeL_append, Bool.and_self, Bool.and_true, Bool.true_and]) (by first | rfl | simp only [treeL, AVal.tree, treeL_i, treeL_ints, treeL_u8, treeL_append, Bool.and_self, Bool.and_true, Bool.true_and]) mixed (by kernel_rfl) fun hl => ?_
  simp only [lensL, lens, lensL_i, lensL_mapC, maxI, and_true, true_and] at hl
  rw [Tryd.ntmps26]
  refine ex_start ?_
  have hl4 := hT.l4
  have lq := matI_len q n
  have h8 : (n : Int) * ((8 : Nat) : Int) ≤ 281474976710656 := by omega
  have h63 : (n : Int) ≤ 9223372036854775807 := by omega
  simp (config := { maxSteps := 1000000 }) +decide only [NoH, Old, OldL, nilQ, nilA, asgn, nz, RechL, ReY, isNew, stepO, XPost, postN, XOk, updN, updU, isEff, avalue, aeff, ASt.eval, ASt.put, ASt.set, ASt.new, Nat.reduceDiv, Nat.reduceAdd, Int.reduceToNat, absV, absC, scalar, alen, acap, conc, flats, live, blkOf, aload, rd, part?, afieldAddr, afield, aindexAddr, cellsOf, afill, places, abuild, optI, asliceV, asliceS, szOk, srcCells, aappend, acopy, astore, amakeSlice, abuildSlice, snapL, mapO, treeL, AVal.tree, AVal.flatT, isFlat, ares, isFz, afroz, afrozB, lookupA, lookupH, tops, if_true, if_false, reduceCtorEq, forall_const, ite_true, ite_false, implies_true, walkS, tabS, Tryd.results26, lq]
  refine ex_loop (fun p : {p : Nat × Nat × Nat // p.1 ≤ n} => mkG (ghs [] [63]) [(0, intss (matI q n)), (1, .i target), (2, ints T), (7, .own 64 p.1.2.1 0 p.1.1), (14, .i n), (15, .i p.1.1)] [(64, ⟨p.1.2.1, 1, mapC ints (matT (ndA q target T) n p.1.1)⟩)] p.1.2.2 67) (fun p => n - p.1.1) ⟨(0, 0, 1), Nat.zero_le _⟩ ?_ ?_
  · refine weak_mk rfl (by first | exact Nat.le_refl _ | (simp only [mk_gen]; omega)) ?_ ?_ <;> simp +decide only [w_lookup_nil, w_lookup_cons, ch_ch, ch_lit, lit_ch, wkT, wkH, wkB, WVL, WV_refl', Int.natCast_zero, Int.natCast_add, Int.natCast_one, Nat.sub_self, Nat.sub_zero, List.replicate_zero, List.take_zero, List.nil_append, List.append_nil, fillC_zero, Nat.reduceDiv, Nat.reduceAdd, upd_bk, bk_at, getB_zero, getB_succ, modB_zero, modB_succ, rows_lit, repB_zero, repB_succ, List.length_cons, List.length_nil, upd_upd_same, upd_apply, mk_tmp, mk_heap, mk_gen, lookupA, lookupH, List.getD_cons_zero, List.getD_cons_succ, init_two, tops, Bool.true_and, and_self, and_true, true_and, true_or, if_true, if_false, ite_true, ite_false, reduceCtorEq, reduceIte, lq, mapC_nil, matT, List.range_zero, List.map_nil]
    exact WV_nl rfl rfl rfl rfl
  rintro ⟨⟨i, g, G⟩, hi⟩
  have hi' : i ≤ n := hi
  have lm := matT_len (ndA q target T) n i
  have tkm : (matT (ndA q target T) n i).take i = matT (ndA q target T) n i := List.take_of_length_le (by omega)
  by_cases ilt : i < n
  case neg =>
    have e : i = n := by omega
    subst e
    have iltI : ¬ (i : Int) < (i : Int) := by omega
    have hA : treeL (mapC ints (matT (ndA q target T) i i)) = true := treeL_mapC _ _ fun r => treeL_mapC _ _ fun _ => rfl
    have el : (matI (ndA q target T) i).length = i := matI_len _ _
    rw [matT_all] at tkm hA
    simp (config := { maxSteps := 1000000 }) +decide only [NoH, Old, OldL, nilQ, nilA, asgn, nz, RechL, ReY, isNew, stepO, XPost, postN, XOk, updN, updU, isEff, avalue, aeff, ASt.eval, ASt.put, ASt.set, ASt.new, Nat.reduceDiv, Nat.reduceAdd, Int.reduceToNat, absV, absC, scalar, alen, acap, conc, flats, live, blkOf, aload, rd, part?, afieldAddr, afield, aindexAddr, cellsOf, afill, places, abuild, optI, asliceV, asliceS, szOk, srcCells, aappend, acopy, astore, amakeSlice, abuildSlice, snapL, mapO, treeL, AVal.tree, AVal.flatT, isFlat, ares, isFz, afroz, afrozB, lookupA, lookupH, tops, if_true, if_false, reduceCtorEq, forall_const, ite_true, ite_false, implies_true, walkS, tabS, Tryd.results26, eq_false iltI, hA, lm, matT_all, tkm, el]
  have iltI : (i : Int) < (n : Int) := by omega
  have wi : IntKind.i64.wrap ((i : Int) + 1) = ((i + 1 : Nat) : Int) := wrap64 (by omega) (by omega)
  have z0 := ndR_zero q target T i n
  simp (config := { maxSteps := 1000000 }) +decide only [NoH, Old, OldL, nilQ, nilA, asgn, nz, RechL, ReY, isNew, stepO, XPost, postN, XOk, updN, updU, isEff, avalue, aeff, ASt.eval, ASt.put, ASt.set, ASt.new, Nat.reduceDiv, Nat.reduceAdd, Int.reduceToNat, absV, absC, scalar, alen, acap, conc, flats, live, blkOf, aload, rd, part?, afieldAddr, afield, aindexAddr, cellsOf, afill, places, abuild, optI, asliceV, asliceS, szOk, srcCells, aappend, acopy, astore, amakeSlice, abuildSlice, snapL, mapO, treeL, AVal.tree, AVal.flatT, isFlat, ares, isFz, afroz, afrozB, lookupA, lookupH, tops, if_true, if_false, reduceCtorEq, forall_const, ite_true, ite_false, implies_true, walkS, tabS, Tryd.results26, eq_true iltI, lq, eq_true h8, eq_true h63, flatten1, rep_i, z0]
  refine ex_loopW (fun p : {p : Nat × Nat // p.1 ≤ n} => mkG (ghs [] [63]) [(0, intss (matI q n)), (1, .i target), (2, ints T), (7, .own 64 g 0 i), (8, .i i), (9, .own 20 G 0 n), (14, .i n), (15, .i i), (22, .i n), (23, .i p.1.1)] [(64, ⟨g, 1, mapC ints (matT (ndA q target T) n i)⟩), (20, ⟨G, 1, mapC AVal.i (rowI (ndR q target T i p.1.1) n)⟩)] p.1.2 67) (fun p => n - p.1.1) ⟨(0, G + 1), Nat.zero_le _⟩ ?_ ?_
  · refine weak_mk rfl (by first | exact Nat.le_refl _ | (simp only [mk_gen]; omega)) ?_ ?_ <;> simp +decide only [w_lookup_nil, w_lookup_cons, ch_ch, ch_lit, lit_ch, wkT, wkH, wkB, WVL, WV_refl', Int.natCast_zero, Int.natCast_add, Int.natCast_one, Nat.sub_self, Nat.sub_zero, List.replicate_zero, List.take_zero, List.nil_append, List.append_nil, fillC_zero, Nat.reduceDiv, Nat.reduceAdd, upd_bk, bk_at, getB_zero, getB_succ, modB_zero, modB_succ, rows_lit, repB_zero, repB_succ, List.length_cons, List.length_nil, upd_upd_same, upd_apply, mk_tmp, mk_heap, mk_gen, lookupA, lookupH, List.getD_cons_zero, List.getD_cons_succ, init_two, tops, Bool.true_and, and_self, and_true, true_and, true_or, if_true, if_false, ite_true, ite_false, reduceCtorEq, reduceIte, lq]
  rintro ⟨⟨j, G2⟩, hj⟩
  have hj' : j ≤ n := hj
  have lr := rowI_len (ndR q target T i j) n
  by_cases jlt : j < n
  case neg =>
    have e : j = n := by omega
    subst e
    have jltI : ¬ (j : Int) < (j : Int) := by omega
    have h24 : (i + 1) * 24 ≤ 140737488355328 := by omega
    have sn : mapC ints (matT (ndA q target T) j i) ++ [ints (rowI (ndA q target T i) j)] = mapC ints (matT (ndA q target T) j (i + 1)) := by rw [mapC_snoc, matT_snoc]
    simp (config := { maxSteps := 1000000 }) +decide only [NoH, Old, OldL, nilQ, nilA, asgn, nz, RechL, ReY, isNew, stepO, XPost, postN, XOk, updN, updU, isEff, avalue, aeff, ASt.eval, ASt.put, ASt.set, ASt.new, Nat.reduceDiv, Nat.reduceAdd, Int.reduceToNat, absV, absC, scalar, alen, acap, conc, flats, live, blkOf, aload, rd, part?, afieldAddr, afield, aindexAddr, cellsOf, afill, places, abuild, optI, asliceV, asliceS, szOk, srcCells, aappend, acopy, astore, amakeSlice, abuildSlice, snapL, mapO, treeL, AVal.tree, AVal.flatT, isFlat, ares, isFz, afroz, afrozB, lookupA, lookupH, tops, if_true, if_false, reduceCtorEq, forall_const, ite_true, ite_false, implies_true, walkS, tabS, Tryd.results26, eq_false jltI, loopW_exit]
    refine ⟨mkG (ghs [] [63]) [(0, intss (matI q j)), (1, .i target), (2, ints T), (7, .own 64 g 0 i), (9, ints (rowI (ndA q target T i) j)), (14, .i j), (15, .i i)] [(64, ⟨g, 1, mapC ints (matT (ndA q target T) j i)⟩)] G2 67, .step ?_ (.refl _), ?_⟩
    · refine weak_mk rfl (by first | exact Nat.le_refl _ | (simp only [mk_gen]; omega)) ?_ ?_ <;> simp +decide only [w_lookup_nil, w_lookup_cons, ch_ch, ch_lit, lit_ch, wkT, wkH, wkB, WVL, WV_refl', Int.natCast_zero, Int.natCast_add, Int.natCast_one, Nat.sub_self, Nat.sub_zero, List.replicate_zero, List.take_zero, List.nil_append, List.append_nil, fillC_zero, Nat.reduceDiv, Nat.reduceAdd, upd_bk, bk_at, getB_zero, getB_succ, modB_zero, modB_succ, rows_lit, repB_zero, repB_succ, List.length_cons, List.length_nil, upd_upd_same, upd_apply, mk_tmp, mk_heap, mk_gen, lookupA, lookupH, List.getD_cons_zero, List.getD_cons_succ, init_two, tops, Bool.true_and, and_self, and_true, true_and, true_or, if_true, if_false, ite_true, ite_false, reduceCtorEq, reduceIte]
      have e1 : ints (rowI (ndA q target T i) j) = .lst (mapC AVal.i (rowI (ndR q target T i j) j)) j := by rw [ndR_all]; show AVal.lst _ _ = _; rw [rowI_len]
      rw [e1]
      exact WV_frz rfl rfl rfl (by simp [mapC, rowI_len]) (by rw [List.drop_zero]; exact (List.take_of_length_le (by simp [mapC, rowI_len])).symm) (treeL_i _)
    · simp (config := { maxSteps := 1000000 }) +decide only [NoH, Old, OldL, nilQ, nilA, asgn, nz, RechL, ReY, isNew, stepO, XPost, postN, XOk, updN, updU, isEff, avalue, aeff, ASt.eval, ASt.put, ASt.set, ASt.new, Nat.reduceDiv, Nat.reduceAdd, Int.reduceToNat, absV, absC, scalar, alen, acap, conc, flats, live, blkOf, aload, rd, part?, afieldAddr, afield, aindexAddr, cellsOf, afill, places, abuild, optI, asliceV, asliceS, szOk, srcCells, aappend, acopy, astore, amakeSlice, abuildSlice, snapL, mapO, treeL, AVal.tree, AVal.flatT, isFlat, ares, isFz, afroz, afrozB, lookupA, lookupH, tops, if_true, if_false, reduceCtorEq, forall_const, ite_true, ite_false, implies_true, walkS, tabS, Tryd.results26, wi, h24, tkm, lm, sn, List.replicate_succ, List.flatten_cons, List.flatten_nil]
      refine ⟨⟨(i + 1, G2, G2 + 1), ilt⟩, ?_, by show j - (i + 1) < j - i; omega⟩
      refine weak_mk rfl (by first | exact Nat.le_refl _ | (simp only [mk_gen]; omega)) ?_ ?_ <;> simp +decide only [w_lookup_nil, w_lookup_cons, ch_ch, ch_lit, lit_ch, wkT, wkH, wkB, WVL, WV_refl', Int.natCast_zero, Int.natCast_add, Int.natCast_one, Nat.sub_self, Nat.sub_zero, List.replicate_zero, List.take_zero, List.nil_append, List.append_nil, fillC_zero, Nat.reduceDiv, Nat.reduceAdd, upd_bk, bk_at, getB_zero, getB_succ, modB_zero, modB_succ, rows_lit, repB_zero, repB_succ, List.length_cons, List.length_nil, upd_upd_same, upd_apply, mk_tmp, mk_heap, mk_gen, lookupA, lookupH, List.getD_cons_zero, List.getD_cons_succ, init_two, tops, Bool.true_and, and_self, and_true, true_and, true_or, if_true, if_false, ite_true, ite_false, reduceCtorEq, reduceIte]
  have jltI : (j : Int) < (n : Int) := by omega
  have wj : IntKind.i64.wrap ((j : Int) + 1) = ((j + 1 : Nat) : Int) := wrap64 (by omega) (by omega)
  by_cases ej : i = j
  · subst ej
    have es := ndR_skip q target T i n
    simp (config := { maxSteps := 1000000 }) +decide only [NoH, Old, OldL, nilQ, nilA, asgn, nz, RechL, ReY, isNew, stepO, XPost, postN, XOk, updN, updU, isEff, avalue, aeff, ASt.eval, ASt.put, ASt.set, ASt.new, Nat.reduceDiv, Nat.reduceAdd, Int.reduceToNat, absV, absC, scalar, alen, acap, conc, flats, live, blkOf, aload, rd, part?, afieldAddr, afield, aindexAddr, cellsOf, afill, places, abuild, optI, asliceV, asliceS, szOk, srcCells, aappend, acopy, astore, amakeSlice, abuildSlice, snapL, mapO, treeL, AVal.tree, AVal.flatT, isFlat, ares, isFz, afroz, afrozB, lookupA, lookupH, tops, if_true, if_false, reduceCtorEq, forall_const, ite_true, ite_false, implies_true, walkS, tabS, Tryd.results26, eq_true jltI, lq, wj]
    refine ⟨⟨(i + 1, G2), jlt⟩, ?_, by show n - (i + 1) < n - i; omega⟩
    refine weak_mk rfl (by first | exact Nat.le_refl _ | (simp only [mk_gen]; omega)) ?_ ?_ <;> simp +decide only [w_lookup_nil, w_lookup_cons, ch_ch, ch_lit, lit_ch, wkT, wkH, wkB, WVL, WV_refl', Int.natCast_zero, Int.natCast_add, Int.natCast_one, Nat.sub_self, Nat.sub_zero, List.replicate_zero, List.take_zero, List.nil_append, List.append_nil, fillC_zero, Nat.reduceDiv, Nat.reduceAdd, upd_bk, bk_at, getB_zero, getB_succ, modB_zero, modB_succ, rows_lit, repB_zero, repB_succ, List.length_cons, List.length_nil, upd_upd_same, upd_apply, mk_tmp, mk_heap, mk_gen, lookupA, lookupH, List.getD_cons_zero, List.getD_cons_succ, init_two, tops, Bool.true_and, and_self, and_true, true_and, true_or, if_true, if_false, ite_true, ite_false, reduceCtorEq, reduceIte, es]
  have ejI : ¬ (i : Int) = (j : Int) := by omega
  have c1 := matI_cellT (q := q) ilt
  have c2 := matI_cellT (q := q) jlt
  have c3 := rowI_cellT (q := q i) jlt
  have c4 := rowI_cellT (q := q j) ilt
  have r1 := rowI_len (q i) n
  have r2 := rowI_len (q j) n
  have b1 := hq i j
  have b2 := hq j i
  have wm : IntKind.i64.wrap (target - min (q i j) (q j i)) = target - min (q i j) (q j i) := wrap64 (by omega) (by omega)
  have dx := den_IndexFunc T 46 [.iptr [.i (target - min (q i j) (q j i))] 0] (fun x => target - min (q i j) (q j i) ≤ x) (by simp only [treeL, AVal.tree, Bool.and_self]) (fun x _ => den_nm1 x _) (fun s => by simp only [snapL, snap_iptr, treeL, AVal.tree, Bool.and_self, if_true])
  have en : ndA q target T i j = ndV T (target - min (q i j) (q j i)) := if_neg ej
  have er := ndR_set q target T i j n
  rw [en] at er
  unfold ndV at er
  generalize idx (fun x => target - min (q i j) (q j i) ≤ x) T = z at dx er
  by_cases cz : 0 ≤ z
  · rw [if_pos cz] at er
    simp (config := { maxSteps := 1000000 }) +decide only [NoH, Old, OldL, nilQ, nilA, asgn, nz, RechL, ReY, isNew, stepO, XPost, postN, XOk, updN, updU, isEff, avalue, aeff, ASt.eval, ASt.put, ASt.set, ASt.new, Nat.reduceDiv, Nat.reduceAdd, Int.reduceToNat, absV, absC, scalar, alen, acap, conc, flats, live, blkOf, aload, rd, part?, afieldAddr, afield, aindexAddr, cellsOf, afill, places, abuild, optI, asliceV, asliceS, szOk, srcCells, aappend, acopy, astore, amakeSlice, abuildSlice, snapL, mapO, treeL, AVal.tree, AVal.flatT, isFlat, ares, isFz, afroz, afrozB, lookupA, lookupH, tops, if_true, if_false, reduceCtorEq, forall_const, ite_true, ite_false, implies_true, walkS, tabS, Tryd.results26, eq_true jltI, lq, eq_false ejI, eq_false ej, ilt, jlt, c1, c2, c3, c4, r1, r2, lr, sem_min, wm, List.length_set]
    refine callK (dx) (by first | exact .inl rfl | exact .inr rfl) ?_
    simp (config := { maxSteps := 1000000 }) +decide only [NoH, Old, OldL, nilQ, nilA, asgn, nz, RechL, ReY, isNew, stepO, XPost, postN, XOk, updN, updU, isEff, avalue, aeff, ASt.eval, ASt.put, ASt.set, ASt.new, Nat.reduceDiv, Nat.reduceAdd, Int.reduceToNat, absV, absC, scalar, alen, acap, conc, flats, live, blkOf, aload, rd, part?, afieldAddr, afield, aindexAddr, cellsOf, afill, places, abuild, optI, asliceV, asliceS, szOk, srcCells, aappend, acopy, astore, amakeSlice, abuildSlice, snapL, mapO, treeL, AVal.tree, AVal.flatT, isFlat, ares, isFz, afroz, afrozB, lookupA, lookupH, tops, if_true, if_false, reduceCtorEq, forall_const, ite_true, ite_false, implies_true, walkS, tabS, Tryd.results26, eq_true cz, jlt, lr, wj, List.set_set, List.length_set, er]
    refine ⟨⟨(j + 1, G2 + 1), jlt⟩, ?_, by show n - (j + 1) < n - j; omega⟩
    refine weak_mk rfl (by first | exact Nat.le_refl _ | (simp only [mk_gen]; omega)) ?_ ?_ <;> simp +decide only [w_lookup_nil, w_lookup_cons, ch_ch, ch_lit, lit_ch, wkT, wkH, wkB, WVL, WV_refl', Int.natCast_zero, Int.natCast_add, Int.natCast_one, Nat.sub_self, Nat.sub_zero, List.replicate_zero, List.take_zero, List.nil_append, List.append_nil, fillC_zero, Nat.reduceDiv, Nat.reduceAdd, upd_bk, bk_at, getB_zero, getB_succ, modB_zero, modB_succ, rows_lit, repB_zero, repB_succ, List.length_cons, List.length_nil, upd_upd_same, upd_apply, mk_tmp, mk_heap, mk_gen, lookupA, lookupH, List.getD_cons_zero, List.getD_cons_succ, init_two, tops, Bool.true_and, and_self, and_true, true_and, true_or, if_true, if_false, ite_true, ite_false, reduceCtorEq, reduceIte]
  · rw [if_neg cz] at er
    simp (config := { maxSteps := 1000000 }) +decide only [NoH, Old, OldL, nilQ, nilA, asgn, nz, RechL, ReY, isNew, stepO, XPost, postN, XOk, updN, updU, isEff, avalue, aeff, ASt.eval, ASt.put, ASt.set, ASt.new, Nat.reduceDiv, Nat.reduceAdd, Int.reduceToNat, absV, absC, scalar, alen, acap, conc, flats, live, blkOf, aload, rd, part?, afieldAddr, afield, aindexAddr, cellsOf, afill, places, abuild, optI, asliceV, asliceS, szOk, srcCells, aappend, acopy, astore, amakeSlice, abuildSlice, snapL, mapO, treeL, AVal.tree, AVal.flatT, isFlat, ares, isFz, afroz, afrozB, lookupA, lookupH, tops, if_true, if_false, reduceCtorEq, forall_const, ite_true, ite_false, implies_true, walkS, tabS, Tryd.results26, eq_true jltI, lq, eq_false ejI, eq_false ej, ilt, jlt, c1, c2, c3, c4, r1, r2, lr, sem_min, wm, List.length_set]
    refine callK (dx) (by first | exact .inl rfl | exact .inr rfl) ?_
    simp (config := { maxSteps := 1000000 }) +decide only [NoH, Old, OldL, nilQ, nilA, asgn, nz, RechL, ReY, isNew, stepO, XPost, postN, XOk, updN, updU, isEff, avalue, aeff, ASt.eval, ASt.put, ASt.set, ASt.new, Nat.reduceDiv, Nat.reduceAdd, Int.reduceToNat, absV, absC, scalar, alen, acap, conc, flats, live, blkOf, aload, rd, part?, afieldAddr, afield, aindexAddr, cellsOf, afill, places, abuild, optI, asliceV, asliceS, szOk, srcCells, aappend, acopy, astore, amakeSlice, abuildSlice, snapL, mapO, treeL, AVal.tree, AVal.flatT, isFlat, ares, isFz, afroz, afrozB, lookupA, lookupH, tops, if_true, if_false, reduceCtorEq, forall_const, ite_true, ite_false, implies_true, walkS, tabS, Tryd.results26, eq_false cz, jlt, lr, wj, er]
    refine ⟨⟨(j + 1, G2 + 1), jlt⟩, ?_, by show n - (j + 1) < n - j; omega⟩
    refine weak_mk rfl (by first | exact Nat.le_refl _ | (simp only [mk_gen]; omega)) ?_ ?_ <;> simp +decide only [w_lookup_nil, w_lookup_cons, ch_ch, ch_lit, lit_ch, wkT, wkH, wkB, WVL, WV_refl', Int.natCast_zero, Int.natCast_add, Int.natCast_one, Nat.sub_self, Nat.sub_zero, List.replicate_zero, List.take_zero, List.nil_append, List.append_nil, fillC_zero, Nat.reduceDiv, Nat.reduceAdd, upd_bk, bk_at, getB_zero, getB_succ, modB_zero, modB_succ, rows_lit, repB_zero, repB_succ, List.length_cons, List.length_nil, upd_upd_same, upd_apply, mk_tmp, mk_heap, mk_gen, lookupA, lookupH, List.getD_cons_zero, List.getD_cons_succ, init_two, tops, Bool.true_and, and_self, and_true, true_and, true_or, if_true, if_false, ite_true, ite_false, reduceCtorEq, reduceIte, er]
/-- what the problem asks of the rows -/
def KeyOk (R : List (List Int)) (n : Nat) (target : Int) (T : List Int) (A : List (List Int)) : Prop :=
  ∀ j, j < R.length → ∀ k, k < n → k ≠ sv (R.getD j []) → ∀ d : Nat, (A.getD (sv (R.getD j [])) []).getD k 0 ≤ d → ∀ hl : d < T.length, target ≤ (R.getD j []).getD (sv (R.getD j [])) 0 - (R.getD j []).getD k 0 + T[d]
theorem sv_lt {R : List (List Int)} {n : Nat} (h : RwOk R n) {j : Nat} (hj : j < R.length) : sv (R.getD j []) < n := by
  rw [gDr hj]
  have k := h.at hj
  have := (sv_is (row := R[j]) (by have := k.len; have := k.n1; omega)).1
  have := k.len
  omega
theorem key_of {R : List (List Int)} {n : Nat} (h : RwOk R n) {T : List Int} (hT : TbOk T) {target : Int} {q : Nat → Nat → Int} (hq : PQ R n R.length 0 q) : KeyOk R n target T (matI (ndA q target T) n) := by
  intro j hj k hk hne d hd hl
  rw [matI_getD (sv_lt h hj) hk] at hd
  have e : ndA q target T (sv (R.getD j [])) k = ndV T (target - min (q (sv (R.getD j [])) k) (q k (sv (R.getD j [])))) := if_neg (Ne.symm hne)
  rw [e] at hd
  have h1 := ndV_ok hT hd hl
  have h2 := hq.old j hj k hk hne
  omega
theorem prd_nd {n : Nat} (h1 : 1 ≤ n) (h5 : n ≤ 5) {T : List Int} (hT : TbOk T) (target : Int) (q : Nat → Nat → Int) {D : List (List Int)} (hD : D.length = n) (hd : ∀ d ∈ D, DomOk d) : PrD D (matI (ndA q target T) n) := by
  subst hD
  refine ⟨h1, by omega, hd, matI_len _ _, fun r hr => ?_, fun i hi => ?_, fun i k hi hk => ?_⟩
  · obtain ⟨a, _, rfl⟩ := List.mem_map.1 hr
    refine ⟨rowI_len _ _, fun x hx => ?_⟩
    obtain ⟨b, _, rfl⟩ := List.mem_map.1 hx
    have := ndV_in (T := T) (target - min (q a b) (q b a))
    have l4 := hT.l4
    show 0 ≤ ndA q target T a b ∧ ndA q target T a b ≤ 4
    unfold ndA
    split <;> omega
  · rw [matI_getD hi hi]
    exact if_pos rfl
  · rw [matI_getD hi hk, matI_getD hk hi]
    unfold ndA
    by_cases e : i = k
    · subst e; rfl
    · rw [if_neg e, if_neg (Ne.symm e), show min (q i k) (q k i) = min (q k i) (q i k) by omega]
theorem den_po1 {d : List Int} (h : DomOk d) : Den Tryd.prog 22 [ints d] (.b (bp False)) := by
  refine den_of_awp Tryd.func22 rfl (by kernel_rfl) (Nat.le_of_ble_eq_true rfl) (by simp only [treeL, AVal.tree, treeL_i, treeL_ints, treeL_u8, treeL_append, Bool.and_self, Bool.and_true, Bool.true_and]) (by first | rfl | simp only [treeL, AVal.tree, treeL_i, treeL_ints, treeL_u8, treeL_append, Bool.and_self, Bool.and_true, Bool.true_and]) mixed (by kernel_rfl) fun hl => ?_
  simp only [lensL, lens, lensL_i, lensL_mapC, maxI, and_true, true_and] at hl
  rw [Tryd.ntmps22]
  refine ex_start ?_
  simp (config := { maxSteps := 1000000 }) +decide only [NoH, Old, OldL, nilQ, nilA, asgn, nz, RechL, ReY, isNew, stepO, XPost, postN, XOk, updN, updU, isEff, avalue, aeff, ASt.eval, ASt.put, ASt.set, ASt.new, Nat.reduceDiv, Nat.reduceAdd, Int.reduceToNat, absV, absC, scalar, alen, acap, conc, flats, live, blkOf, aload, rd, part?, afieldAddr, afield, aindexAddr, cellsOf, afill, places, abuild, optI, asliceV, asliceS, szOk, srcCells, aappend, acopy, astore, amakeSlice, abuildSlice, snapL, mapO, treeL, AVal.tree, AVal.flatT, isFlat, ares, isFz, afroz, afrozB, lookupA, lookupH, tops, if_true, if_false, reduceCtorEq, forall_const, ite_true, ite_false, implies_true, walkS, tabS, Tryd.results22]
  refine callK (den_domainOk h) (by first | exact .inl rfl | exact .inr rfl) ?_
  simp (config := { maxSteps := 1000000 }) +decide only [NoH, Old, OldL, nilQ, nilA, asgn, nz, RechL, ReY, isNew, stepO, XPost, postN, XOk, updN, updU, isEff, avalue, aeff, ASt.eval, ASt.put, ASt.set, ASt.new, Nat.reduceDiv, Nat.reduceAdd, Int.reduceToNat, absV, absC, scalar, alen, acap, conc, flats, live, blkOf, aload, rd, part?, afieldAddr, afield, aindexAddr, cellsOf, afill, places, abuild, optI, asliceV, asliceS, szOk, srcCells, aappend, acopy, astore, amakeSlice, abuildSlice, snapL, mapO, treeL, AVal.tree, AVal.flatT, isFlat, ares, isFz, afroz, afrozB, lookupA, lookupH, tops, if_true, if_false, reduceCtorEq, forall_const, ite_true, ite_false, implies_true, walkS, tabS, Tryd.results22]
theorem deny_ProblemOf {R : List (List Int)} {n : Nat} (h : RwOk R n) {T : List Int} (hT : TbOk T) (target : Int) (ht : 0 ≤ target ∧ target ≤ 40000) {D : List (List Int)} (hD : D.length = n) (hd : ∀ d ∈ D, DomOk d) : DenY Tryd.prog 8 [.v (intss R), xi target, .v (ints T), .v (intss D)] (fun A : List (List Int) => PrD D A ∧ KeyOk R n target T A) (fun _ => [.v (intss R), xi target, .v (ints T), .v (intss D)]) (fun A => .v (.tup [proV D A, .i 0])) := by
  subst hD
  refine denY_of_awpG (ghs [] []) Tryd.func8 rfl (by kernel_rfl) (Nat.le_of_ble_eq_true rfl) (by simp +decide only [w_embA_nil, w_embA_cons, w_emb_v, w_emb_ol, w_emb_op, w_emb_agg, w_emb_tup, w_embL_nil, w_embL_cons, embL_i, List.map_cons, List.map_nil, List.nil_append, List.append_nil, List.cons_append, List.nodup_cons, List.nodup_nil, List.mem_cons, List.mem_nil_iff, List.not_mem_nil, ch_ch, ch_lit, lit_ch, Nat.reduceAdd]) mixed (by kernel_rfl) fun hl => ?_
  simp only [xlensL, xlens, lensL, lens, lensL_i, lensL_mapC, xlensL_i, maxI, and_true, true_and] at hl
  rw [Tryd.ntmps8]
  refine ex_start ?_
  have h1 := h.n1
  have h5 := h.n5
  have r1 := h.r1
  have h0 : 0 < R.length := by omega
  have h0I : (0 : Int) < (R.length : Int) := by omega
  have l0 : R[0].length = D.length := (h.at h0).len
  have dcl := den_cloneLists D (by omega) (fun d hx => by have := (hd d hx).few; omega)
  have hA : ∀ q : Nat → Nat → Int, treeL (mapC ints (matI q D.length)) = true := fun q => treeL_mapC _ _ fun r => treeL_mapC _ _ fun _ => rfl
  simp (config := { maxSteps := 1000000 }) +decide only [NoH, Old, OldL, nilQ, nilA, asgn, nz, RechL, ReY, isNew, stepO, XPost, postN, XOk, updN, updU, isEff, avalue, aeff, ASt.eval, ASt.put, ASt.set, ASt.new, Nat.reduceDiv, Nat.reduceAdd, Int.reduceToNat, absV, absC, scalar, alen, acap, conc, flats, live, blkOf, aload, rd, part?, afieldAddr, afield, aindexAddr, cellsOf, afill, places, abuild, optI, asliceV, asliceS, szOk, srcCells, aappend, acopy, astore, amakeSlice, abuildSlice, snapL, mapO, treeL, AVal.tree, AVal.flatT, isFlat, ares, isFz, afroz, afrozB, lookupA, lookupH, tops, if_true, if_false, reduceCtorEq, forall_const, ite_true, ite_false, implies_true, walkS, tabS, Tryd.results8]
  refine callK (den_ValidRows h) (by first | exact .inl rfl | exact .inr rfl) ?_
  simp (config := { maxSteps := 1000000 }) +decide only [NoH, Old, OldL, nilQ, nilA, asgn, nz, RechL, ReY, isNew, stepO, XPost, postN, XOk, updN, updU, isEff, avalue, aeff, ASt.eval, ASt.put, ASt.set, ASt.new, Nat.reduceDiv, Nat.reduceAdd, Int.reduceToNat, absV, absC, scalar, alen, acap, conc, flats, live, blkOf, aload, rd, part?, afieldAddr, afield, aindexAddr, cellsOf, afill, places, abuild, optI, asliceV, asliceS, szOk, srcCells, aappend, acopy, astore, amakeSlice, abuildSlice, snapL, mapO, treeL, AVal.tree, AVal.flatT, isFlat, ares, isFz, afroz, afrozB, lookupA, lookupH, tops, if_true, if_false, reduceCtorEq, forall_const, ite_true, ite_false, implies_true, walkS, tabS, Tryd.results8]
  refine callK (den_tableOk hT) (by first | exact .inl rfl | exact .inr rfl) ?_
  simp (config := { maxSteps := 1000000 }) +decide only [NoH, Old, OldL, nilQ, nilA, asgn, nz, RechL, ReY, isNew, stepO, XPost, postN, XOk, updN, updU, isEff, avalue, aeff, ASt.eval, ASt.put, ASt.set, ASt.new, Nat.reduceDiv, Nat.reduceAdd, Int.reduceToNat, absV, absC, scalar, alen, acap, conc, flats, live, blkOf, aload, rd, part?, afieldAddr, afield, aindexAddr, cellsOf, afill, places, abuild, optI, asliceV, asliceS, szOk, srcCells, aappend, acopy, astore, amakeSlice, abuildSlice, snapL, mapO, treeL, AVal.tree, AVal.flatT, isFlat, ares, isFz, afroz, afrozB, lookupA, lookupH, tops, if_true, if_false, reduceCtorEq, forall_const, ite_true, ite_false, implies_true, walkS, tabS, Tryd.results8]
  refine callK (den_ContainsRowsC D _ [] (fun _ => False) rfl (fun x hx => den_po1 (hd x hx)) (fun _ => rfl) (fun _ => rfl)) (by first | exact .inl rfl | exact .inr rfl) ?_
  simp (config := { maxSteps := 1000000 }) +decide only [NoH, Old, OldL, nilQ, nilA, asgn, nz, RechL, ReY, isNew, stepO, XPost, postN, XOk, updN, updU, isEff, avalue, aeff, ASt.eval, ASt.put, ASt.set, ASt.new, Nat.reduceDiv, Nat.reduceAdd, Int.reduceToNat, absV, absC, scalar, alen, acap, conc, flats, live, blkOf, aload, rd, part?, afieldAddr, afield, aindexAddr, cellsOf, afill, places, abuild, optI, asliceV, asliceS, szOk, srcCells, aappend, acopy, astore, amakeSlice, abuildSlice, snapL, mapO, treeL, AVal.tree, AVal.flatT, isFlat, ares, isFz, afroz, afrozB, lookupA, lookupH, tops, if_true, if_false, reduceCtorEq, forall_const, ite_true, ite_false, implies_true, walkS, tabS, Tryd.results8, exists_false, and_false]
  refine callK (den_ratioOk target (by omega)) (by first | exact .inl rfl | exact .inr rfl) ?_
  simp (config := { maxSteps := 1000000 }) +decide only [NoH, Old, OldL, nilQ, nilA, asgn, nz, RechL, ReY, isNew, stepO, XPost, postN, XOk, updN, updU, isEff, avalue, aeff, ASt.eval, ASt.put, ASt.set, ASt.new, Nat.reduceDiv, Nat.reduceAdd, Int.reduceToNat, absV, absC, scalar, alen, acap, conc, flats, live, blkOf, aload, rd, part?, afieldAddr, afield, aindexAddr, cellsOf, afill, places, abuild, optI, asliceV, asliceS, szOk, srcCells, aappend, acopy, astore, amakeSlice, abuildSlice, snapL, mapO, treeL, AVal.tree, AVal.flatT, isFlat, ares, isFz, afroz, afrozB, lookupA, lookupH, tops, if_true, if_false, reduceCtorEq, forall_const, ite_true, ite_false, implies_true, walkS, tabS, Tryd.results8, h0, h0I, l0]
  refine callK (dcl) (by first | exact .inl rfl | exact .inr rfl) ?_
  simp (config := { maxSteps := 1000000 }) +decide only [NoH, Old, OldL, nilQ, nilA, asgn, nz, RechL, ReY, isNew, stepO, XPost, postN, XOk, updN, updU, isEff, avalue, aeff, ASt.eval, ASt.put, ASt.set, ASt.new, Nat.reduceDiv, Nat.reduceAdd, Int.reduceToNat, absV, absC, scalar, alen, acap, conc, flats, live, blkOf, aload, rd, part?, afieldAddr, afield, aindexAddr, cellsOf, afill, places, abuild, optI, asliceV, asliceS, szOk, srcCells, aappend, acopy, astore, amakeSlice, abuildSlice, snapL, mapO, treeL, AVal.tree, AVal.flatT, isFlat, ares, isFz, afroz, afrozB, lookupA, lookupH, tops, if_true, if_false, reduceCtorEq, forall_const, ite_true, ite_false, implies_true, walkS, tabS, Tryd.results8]
  refine callY (deny_pairRatios h) (by simp (config := { maxSteps := 1000000 }) +decide only [NoH, Old, OldL, nilQ, nilA, asgn, nz, RechL, ReY, isNew, stepO, XPost, postN, XOk, updN, updU, isEff, avalue, aeff, ASt.eval, ASt.put, ASt.set, ASt.new, Nat.reduceDiv, Nat.reduceAdd, Int.reduceToNat, absV, absC, scalar, alen, acap, conc, flats, live, blkOf, aload, rd, part?, afieldAddr, afield, aindexAddr, cellsOf, afill, places, abuild, optI, asliceV, asliceS, szOk, srcCells, aappend, acopy, astore, amakeSlice, abuildSlice, snapL, mapO, treeL, AVal.tree, AVal.flatT, isFlat, ares, isFz, afroz, afrozB, lookupA, lookupH, tops, if_true, if_false, reduceCtorEq, forall_const, ite_true, ite_false, implies_true, walkS, tabS, Tryd.results8]) (fun i hi => by simp (config := { maxSteps := 1000000 }) +decide only [NoH, Old, OldL, nilQ, nilA, asgn, nz, RechL, ReY, isNew, stepO, XPost, postN, XOk, updN, updU, isEff, avalue, aeff, ASt.eval, ASt.put, ASt.set, ASt.new, Nat.reduceDiv, Nat.reduceAdd, Int.reduceToNat, absV, absC, scalar, alen, acap, conc, flats, live, blkOf, aload, rd, part?, afieldAddr, afield, aindexAddr, cellsOf, afill, places, abuild, optI, asliceV, asliceS, szOk, srcCells, aappend, acopy, astore, amakeSlice, abuildSlice, snapL, mapO, treeL, AVal.tree, AVal.flatT, isFlat, ares, isFz, afroz, afrozB, lookupA, lookupH, tops, if_true, if_false, reduceCtorEq, forall_const, ite_true, ite_false, implies_true, walkS, tabS, Tryd.results8]) ?_
  rintro q hq
  simp (config := { maxSteps := 1000000 }) +decide only [NoH, Old, OldL, nilQ, nilA, asgn, nz, RechL, ReY, isNew, stepO, XPost, postN, XOk, updN, updU, isEff, avalue, aeff, ASt.eval, ASt.put, ASt.set, ASt.new, Nat.reduceDiv, Nat.reduceAdd, Int.reduceToNat, absV, absC, scalar, alen, acap, conc, flats, live, blkOf, aload, rd, part?, afieldAddr, afield, aindexAddr, cellsOf, afill, places, abuild, optI, asliceV, asliceS, szOk, srcCells, aappend, acopy, astore, amakeSlice, abuildSlice, snapL, mapO, treeL, AVal.tree, AVal.flatT, isFlat, ares, isFz, afroz, afrozB, lookupA, lookupH, tops, if_true, if_false, reduceCtorEq, forall_const, ite_true, ite_false, implies_true, walkS, tabS, Tryd.results8]
  refine callK (den_needMatrix q D.length h1 h5 hq.bd target (by omega) hT) (by first | exact .inl rfl | exact .inr rfl) ?_
  simp (config := { maxSteps := 1000000 }) +decide only [NoH, Old, OldL, nilQ, nilA, asgn, nz, RechL, ReY, isNew, stepO, XPost, postN, XOk, updN, updU, isEff, avalue, aeff, ASt.eval, ASt.put, ASt.set, ASt.new, Nat.reduceDiv, Nat.reduceAdd, Int.reduceToNat, absV, absC, scalar, alen, acap, conc, flats, live, blkOf, aload, rd, part?, afieldAddr, afield, aindexAddr, cellsOf, afill, places, abuild, optI, asliceV, asliceS, szOk, srcCells, aappend, acopy, astore, amakeSlice, abuildSlice, snapL, mapO, treeL, AVal.tree, AVal.flatT, isFlat, ares, isFz, afroz, afrozB, lookupA, lookupH, tops, if_true, if_false, reduceCtorEq, forall_const, ite_true, ite_false, implies_true, walkS, tabS, Tryd.results8]
  refine yret (matI (ndA q target T) D.length) ⟨prd_nd h1 h5 hT target q rfl hd, key_of h hT hq⟩ ?_
  simp (config := { maxSteps := 1000000 }) +decide only [NoH, Old, OldL, nilQ, nilA, asgn, nz, RechL, ReY, isNew, stepO, XPost, postN, XOk, updN, updU, isEff, avalue, aeff, ASt.eval, ASt.put, ASt.set, ASt.new, Nat.reduceDiv, Nat.reduceAdd, Int.reduceToNat, absV, absC, scalar, alen, acap, conc, flats, live, blkOf, aload, rd, part?, afieldAddr, afield, aindexAddr, cellsOf, afill, places, abuild, optI, asliceV, asliceS, szOk, srcCells, aappend, acopy, astore, amakeSlice, abuildSlice, snapL, mapO, treeL, AVal.tree, AVal.flatT, isFlat, ares, isFz, afroz, afrozB, lookupA, lookupH, tops, if_true, if_false, reduceCtorEq, forall_const, ite_true, ite_false, implies_true, walkS, tabS, Tryd.results8, hA, treeL_ints]
end Go.Proofs.YtagomliggjndeaaDoor
