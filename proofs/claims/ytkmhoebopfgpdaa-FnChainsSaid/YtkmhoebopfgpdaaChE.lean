/-
  OWN WORK: repairs: free channels, items that violate, the greedy repair.
-/
import Derived.Test.YtkmhoebopfgpdaaChD
namespace Go.Proofs.Ytkmhoebopfgpdaa
open Go Go.Own Go.Proofs
set_option maxHeartbeats 4000000
set_option maxRecDepth 20000
set_option linter.unusedSimpArgs false
set_option linter.unusedVariables false
def itL (n : Nat) : List Int := (List.range n).map fun i : Nat => (i : Int)
theorem itL_len (n : Nat) : (itL n).length = n := by simp [itL]
theorem itL_set {n k : Nat} (h : k < n) : (itL k ++ List.replicate (n - k) 0).set k (k : Int) = itL (k + 1) ++ List.replicate (n - (k + 1)) 0 := by
  rw [List.set_append_right _ _ (by rw [itL_len]; exact Nat.le_refl _), itL_len, Nat.sub_self, show n - k = (n - (k + 1)) + 1 by omega, List.replicate_succ, List.set_cons_zero]
  simp [itL, List.range_succ]
theorem denx_items (D A : List (List Int)) (hD : D.length ≤ 1000000) : DenX Try.prog 42 [.v (proV D A)] [.v (proV D A)] (xints (itL D.length)) := by
  have h8 : (D.length : Int) * ((8 : Nat) : Int) ≤ 281474976710656 := by omega
  have h63 : (D.length : Int) ≤ 9223372036854775807 := by omega
  refine denx_of_awpG (ghs [] [1]) Try.func42 rfl (by kernel_rfl) (Nat.le_of_ble_eq_true rfl) (by simp +decide only [w_embA_nil, w_embA_cons, w_emb_v, w_emb_ol, w_emb_op, w_emb_agg, w_emb_tup, w_embL_nil, w_embL_cons, embL_i, List.map_cons, List.map_nil, List.nil_append, List.append_nil, List.cons_append, List.nodup_cons, List.nodup_nil, List.mem_cons, List.mem_nil_iff, List.not_mem_nil, ch_ch, ch_lit, lit_ch, Nat.reduceAdd]) mixed (by kernel_rfl) fun hl => ?_
  simp only [xlensL, xlens, lensL, lens, lensL_i, lensL_mapC, xlensL_i, maxI, and_true, true_and] at hl
  rw [Try.ntmps42]
  refine ex_start ?_
  simp (config := { maxSteps := 1000000 }) +decide only [NoH, Old, OldL, nilQ, nilA, asgn, nz, RechL, ReY, isNew, stepO, XPost, postN, XOk, updN, updU, isEff, avalue, aeff, ASt.eval, ASt.put, ASt.set, ASt.new, Nat.reduceDiv, Nat.reduceAdd, Int.reduceToNat, absV, absC, scalar, alen, acap, conc, flats, live, blkOf, aload, rd, part?, afieldAddr, afield, aindexAddr, cellsOf, afill, places, abuild, optI, asliceV, asliceS, szOk, srcCells, aappend, acopy, aclear, astore, amakeSlice, abuildSlice, snapL, mapO, treeL, AVal.tree, AVal.flatT, isFlat, ares, isFz, afroz, afrozB, lookupA, lookupH, tops, if_true, if_false, reduceCtorEq, forall_const, ite_true, ite_false, implies_true, walkS, tabS, Try.results42, h8, h63, rep_i]
  refine ex_loop (fun k : {k : Nat // k ≤ D.length} => mkG (ghs [] [1]) [(3, .own 8 1 0 D.length), (10, .i D.length), (11, .i k.1)] [(8, ⟨1, 1, mapC AVal.i (itL k.1 ++ List.replicate (D.length - k.1) 0)⟩)] 2 20) (fun k => D.length - k.1) ⟨0, Nat.zero_le _⟩ ?_ ?_
  · have e0 : itL 0 ++ List.replicate (D.length - 0) 0 = List.replicate D.length 0 := by simp [itL]
    refine weak_mk rfl (by first | exact Nat.le_refl _ | (simp only [mk_gen]; omega)) ?_ ?_ <;> simp +decide only [w_lookup_nil, w_lookup_cons, ch_ch, ch_lit, lit_ch, wkT, wkH, wkB, WVL, WV_refl', Int.natCast_zero, Int.natCast_add, Int.natCast_one, Nat.sub_self, Nat.sub_zero, List.replicate_zero, List.take_zero, List.nil_append, List.append_nil, fillC_zero, Nat.reduceDiv, Nat.reduceAdd, upd_bk, bk_at, getB_zero, getB_succ, modB_zero, modB_succ, rows_lit, repB_zero, repB_succ, List.length_cons, List.length_nil, upd_upd_same, upd_apply, mk_tmp, mk_heap, mk_gen, lookupA, lookupH, List.getD_cons_zero, List.getD_cons_succ, init_two, tops, Bool.true_and, and_self, and_true, true_and, true_or, if_true, if_false, ite_true, ite_false, reduceCtorEq, reduceIte, e0, itL, List.range_zero, List.map_nil]
  rintro ⟨k, hk⟩
  have hk' : k ≤ D.length := hk
  have lX : (itL k ++ List.replicate (D.length - k) 0).length = D.length := by rw [List.length_append, itL_len, List.length_replicate]; omega
  by_cases hlt : k < D.length
  · have hltI : (k : Int) < (D.length : Int) := by omega
    have hw : IntKind.i64.wrap ((k : Int) + 1) = ((k + 1 : Nat) : Int) := wrap64 (by omega) (by omega)
    have es := itL_set hlt
    generalize hX : itL k ++ List.replicate (D.length - k) 0 = X at *
    have kX : k < X.length := by omega
    simp (config := { maxSteps := 1000000 }) +decide only [NoH, Old, OldL, nilQ, nilA, asgn, nz, RechL, ReY, isNew, stepO, XPost, postN, XOk, updN, updU, isEff, avalue, aeff, ASt.eval, ASt.put, ASt.set, ASt.new, Nat.reduceDiv, Nat.reduceAdd, Int.reduceToNat, absV, absC, scalar, alen, acap, conc, flats, live, blkOf, aload, rd, part?, afieldAddr, afield, aindexAddr, cellsOf, afill, places, abuild, optI, asliceV, asliceS, szOk, srcCells, aappend, acopy, aclear, astore, amakeSlice, abuildSlice, snapL, mapO, treeL, AVal.tree, AVal.flatT, isFlat, ares, isFz, afroz, afrozB, lookupA, lookupH, tops, if_true, if_false, reduceCtorEq, forall_const, ite_true, ite_false, implies_true, walkS, tabS, Try.results42, eq_true hltI, hlt, kX, lX, mapC_set, es, hw]
    refine ⟨⟨k + 1, hlt⟩, ?_, by show D.length - (k + 1) < D.length - k; omega⟩
    refine weak_mk rfl (by first | exact Nat.le_refl _ | (simp only [mk_gen]; omega)) ?_ ?_ <;> simp +decide only [w_lookup_nil, w_lookup_cons, ch_ch, ch_lit, lit_ch, wkT, wkH, wkB, WVL, WV_refl', Int.natCast_zero, Int.natCast_add, Int.natCast_one, Nat.sub_self, Nat.sub_zero, List.replicate_zero, List.take_zero, List.nil_append, List.append_nil, fillC_zero, Nat.reduceDiv, Nat.reduceAdd, upd_bk, bk_at, getB_zero, getB_succ, modB_zero, modB_succ, rows_lit, repB_zero, repB_succ, List.length_cons, List.length_nil, upd_upd_same, upd_apply, mk_tmp, mk_heap, mk_gen, lookupA, lookupH, List.getD_cons_zero, List.getD_cons_succ, init_two, tops, Bool.true_and, and_self, and_true, true_and, true_or, if_true, if_false, ite_true, ite_false, reduceCtorEq, reduceIte]
  · have e : k = D.length := by omega
    subst e
    have hltI : ¬ (D.length : Int) < (D.length : Int) := by omega
    have eX : itL D.length ++ List.replicate (D.length - D.length) 0 = itL D.length := by rw [Nat.sub_self]; simp
    have l9 := itL_len D.length
    have t9 : List.take D.length (itL D.length) = itL D.length := List.take_of_length_le (by omega)
    rw [eX]
    simp (config := { maxSteps := 1000000 }) +decide only [NoH, Old, OldL, nilQ, nilA, asgn, nz, RechL, ReY, isNew, stepO, XPost, postN, XOk, updN, updU, isEff, avalue, aeff, ASt.eval, ASt.put, ASt.set, ASt.new, Nat.reduceDiv, Nat.reduceAdd, Int.reduceToNat, absV, absC, scalar, alen, acap, conc, flats, live, blkOf, aload, rd, part?, afieldAddr, afield, aindexAddr, cellsOf, afill, places, abuild, optI, asliceV, asliceS, szOk, srcCells, aappend, acopy, aclear, astore, amakeSlice, abuildSlice, snapL, mapO, treeL, AVal.tree, AVal.flatT, isFlat, ares, isFz, afroz, afrozB, lookupA, lookupH, tops, if_true, if_false, reduceCtorEq, forall_const, ite_true, ite_false, implies_true, walkS, tabS, Try.results42, eq_false hltI, l9, t9]
theorem keepF_le (p : Int → Prop) (xs : List Int) : (xs.filter fun x => !bp (p x)).length ≤ xs.length := List.length_filter_le _ _
theorem first_at (p : Int → Prop) : ∀ xs : List Int, (∀ i (h : i < xs.length), ¬ p xs[i]) ∨ ∃ (k : Nat) (h : k < xs.length), p xs[k] ∧ ∀ i (hi : i < xs.length), i < k → ¬ p xs[i]
  | [] => .inl fun i h => by simp at h
  | x :: r => by
    by_cases c : p x
    · exact .inr ⟨0, by simp, c, fun i _ h => by omega⟩
    · rcases first_at p r with h | ⟨k, h1, h2, h3⟩
      · refine .inl fun i hi => ?_
        cases i with
        | zero => exact c
        | succ i => exact h i (by simpa using hi)
      · refine .inr ⟨k + 1, by simpa using h1, h2, fun i hi hik => ?_⟩
        cases i with
        | zero => exact c
        | succ i => exact h3 i (by simpa using hi) (by omega)
noncomputable def keepF (p : Int → Prop) (xs : List Int) : List Int := xs.filter fun x => !bp (p x)
theorem keepF_all {p : Int → Prop} {xs : List Int} (h : ∀ x ∈ xs, ¬ p x) : keepF p xs = xs := by
  unfold keepF
  rw [List.filter_eq_self]
  intro x hx
  rw [show bp (p x) = false by rw [bp_false]; exact h x hx]
  rfl
theorem keepF_snoc_no {p : Int → Prop} {xs : List Int} {j : Nat} (hj : j < xs.length) (h : p xs[j]) : keepF p (xs.take (j + 1)) = keepF p (xs.take j) := by
  unfold keepF
  rw [List.take_succ_eq_append_getElem hj, List.filter_append, List.filter_cons, if_neg (by rw [show bp (p xs[j]) = true by rw [bp_true]; exact h]; simp), List.filter_nil, List.append_nil]
theorem keepF_snoc {p : Int → Prop} {xs : List Int} {j : Nat} (hj : j < xs.length) (h : ¬ p xs[j]) : keepF p (xs.take (j + 1)) = keepF p (xs.take j) ++ [xs[j]] := by
  unfold keepF
  rw [List.take_succ_eq_append_getElem hj, List.filter_append, List.filter_cons, if_pos (by rw [show bp (p xs[j]) = false by rw [bp_false]; exact h]; rfl), List.filter_nil]
structure DlI (p : Int → Prop) (xs : List Int) (i j : Nat) (Y : List Int) : Prop where
  ij : i < j
  jn : j ≤ xs.length
  len : Y.length = xs.length
  pre : Y.take i = keepF p (xs.take j)
  post : Y.drop j = xs.drop j
theorem DlI.at {p : Int → Prop} {xs : List Int} {i j : Nat} {Y : List Int} (h : DlI p xs i j Y) (hj : j < xs.length) : Y[j]? = some xs[j] := by
  have e := congrArg (fun l => l[0]?) h.post
  simp only [List.getElem?_drop, Nat.add_zero] at e
  rw [e, List.getElem?_eq_getElem hj]
theorem drop_more {Y xs : List Int} {j : Nat} (h : Y.drop j = xs.drop j) : Y.drop (j + 1) = xs.drop (j + 1) := by
  have e := congrArg (List.drop 1) h
  rwa [List.drop_drop, List.drop_drop] at e
theorem denx_DeleteFunc (xs : List Int) (f : FuncId) (cs : List AVal) (p : Int → Prop) (hcs : treeL cs = true) (hp : ∀ x ∈ xs, Den Try.prog f ([.i x] ++ cs) (.b (bp (p x)))) (hs : ∀ s, snapL s cs = some cs) (hm : ∀ s, mapO (snap 5 s) cs = some cs) (hb : xs.length ≤ 1000000) :
    DenX Try.prog 41 [xints xs, .v (.clo f cs)] [xints (keepF p xs ++ List.replicate (xs.length - (keepF p xs).length) 0), .v (.clo f cs)] (.v (.lst [] (keepF p xs).length)) := by
  have tx : List.take xs.length xs = xs := List.take_length
  have dI := den_IndexFunc xs f cs p hcs hp hs
  refine denx_of_awpW (gh0) Try.func41 rfl (by kernel_rfl) (Nat.le_of_ble_eq_true rfl) (by simp +decide only [w_embA_nil, w_embA_cons, w_emb_v, w_emb_ol, w_emb_op, w_emb_agg, w_emb_tup, w_embL_nil, w_embL_cons, embL_i, List.map_cons, List.map_nil, List.nil_append, List.append_nil, List.cons_append, List.nodup_cons, List.nodup_nil, List.mem_cons, List.mem_nil_iff, List.not_mem_nil, ch_ch, ch_lit, lit_ch, Nat.reduceAdd]) mixed (by kernel_rfl) fun hl => ?_
  simp only [xlensL, xlens, lensL, lens, lensL_i, lensL_mapC, xlensL_i, maxI, and_true, true_and] at hl
  rw [Try.ntmps41]
  refine ex_start ?_
  simp (config := { maxSteps := 1000000 }) +decide only [NoH, Old, OldL, nilQ, nilA, asgn, nz, RechL, ReY, isNew, stepO, XPost, postN, XOk, updN, updU, isEff, avalue, aeff, ASt.eval, ASt.put, ASt.set, ASt.new, Nat.reduceDiv, Nat.reduceAdd, Int.reduceToNat, absV, absC, scalar, alen, acap, conc, flats, live, blkOf, aload, rd, part?, afieldAddr, afield, aindexAddr, cellsOf, afill, places, abuild, optI, asliceV, asliceS, szOk, srcCells, aappend, acopy, aclear, astore, amakeSlice, abuildSlice, snapL, mapO, treeL, AVal.tree, AVal.flatT, isFlat, ares, isFz, afroz, afrozB, lookupA, lookupH, tops, if_true, if_false, reduceCtorEq, forall_const, ite_true, ite_false, implies_true, walkS, tabS, Try.results41, hcs, hm, tx, treeL_i]
  refine callK (dI) (by first | exact .inl rfl | exact .inr rfl) ?_
  rcases first_at p xs with hno | ⟨k0, k1, k2, k3⟩
  · have e1 := idx_none (p := p) hno
    have e2 : keepF p xs = xs := keepF_all fun x hx => by
      obtain ⟨i, hi, rfl⟩ := List.getElem_of_mem hx
      exact hno i hi
    have e3 : xs ++ List.replicate (xs.length - xs.length) 0 = xs := by simp
    rw [e1, e2, e3]
    simp (config := { maxSteps := 1000000 }) +decide only [NoH, Old, OldL, nilQ, nilA, asgn, nz, RechL, ReY, isNew, stepO, XPost, postN, XOk, updN, updU, isEff, avalue, aeff, ASt.eval, ASt.put, ASt.set, ASt.new, Nat.reduceDiv, Nat.reduceAdd, Int.reduceToNat, absV, absC, scalar, alen, acap, conc, flats, live, blkOf, aload, rd, part?, afieldAddr, afield, aindexAddr, cellsOf, afill, places, abuild, optI, asliceV, asliceS, szOk, srcCells, aappend, acopy, aclear, astore, amakeSlice, abuildSlice, snapL, mapO, treeL, AVal.tree, AVal.flatT, isFlat, ares, isFz, afroz, afrozB, lookupA, lookupH, tops, if_true, if_false, reduceCtorEq, forall_const, ite_true, ite_false, implies_true, walkS, tabS, Try.results41, tx, treeL_i, apostXW_ret]
    refine ⟨mk [(0, .own 0 0 0 xs.length), (4, .lst [] xs.length)] [(0, ⟨0, 1, mapC AVal.i xs⟩)] 1 42, .step ?_ (.refl _), ?_⟩
    · refine weak_mk rfl (by first | exact Nat.le_refl _ | (simp only [mk_gen]; omega)) ?_ ?_ <;> simp +decide only [w_lookup_nil, w_lookup_cons, ch_ch, ch_lit, lit_ch, wkT, wkH, wkB, WVL, WV_refl', Int.natCast_zero, Int.natCast_add, Int.natCast_one, Nat.sub_self, Nat.sub_zero, List.replicate_zero, List.take_zero, List.nil_append, List.append_nil, fillC_zero, Nat.reduceDiv, Nat.reduceAdd, upd_bk, bk_at, getB_zero, getB_succ, modB_zero, modB_succ, rows_lit, repB_zero, repB_succ, List.length_cons, List.length_nil, upd_upd_same, upd_apply, mk_tmp, mk_heap, mk_gen, lookupA, lookupH, List.getD_cons_zero, List.getD_cons_succ, init_two, tops, Bool.true_and, and_self, and_true, true_and, true_or, if_true, if_false, ite_true, ite_false, reduceCtorEq, reduceIte]
      exact WV_fgt rfl rfl
    · simp (config := { maxSteps := 1000000 }) +decide only [NoH, Old, OldL, nilQ, nilA, asgn, nz, RechL, ReY, isNew, stepO, XPost, postN, XOk, updN, updU, isEff, avalue, aeff, ASt.eval, ASt.put, ASt.set, ASt.new, Nat.reduceDiv, Nat.reduceAdd, Int.reduceToNat, absV, absC, scalar, alen, acap, conc, flats, live, blkOf, aload, rd, part?, afieldAddr, afield, aindexAddr, cellsOf, afill, places, abuild, optI, asliceV, asliceS, szOk, srcCells, aappend, acopy, aclear, astore, amakeSlice, abuildSlice, snapL, mapO, treeL, AVal.tree, AVal.flatT, isFlat, ares, isFz, afroz, afrozB, lookupA, lookupH, tops, if_true, if_false, reduceCtorEq, forall_const, ite_true, ite_false, implies_true, walkS, tabS, Try.results41, tx, treeL_i, hcs, hm]
  have e1 := idx_some k1 k3 k2
  have e1n : ¬ ((k0 : Nat) : Int) = -1 := by omega
  have w0 : IntKind.i64.wrap ((k0 : Int) + 1) = ((k0 + 1 : Nat) : Int) := wrap64 (by omega) (by omega)
  rw [e1]
  simp (config := { maxSteps := 1000000 }) +decide only [NoH, Old, OldL, nilQ, nilA, asgn, nz, RechL, ReY, isNew, stepO, XPost, postN, XOk, updN, updU, isEff, avalue, aeff, ASt.eval, ASt.put, ASt.set, ASt.new, Nat.reduceDiv, Nat.reduceAdd, Int.reduceToNat, absV, absC, scalar, alen, acap, conc, flats, live, blkOf, aload, rd, part?, afieldAddr, afield, aindexAddr, cellsOf, afill, places, abuild, optI, asliceV, asliceS, szOk, srcCells, aappend, acopy, aclear, astore, amakeSlice, abuildSlice, snapL, mapO, treeL, AVal.tree, AVal.flatT, isFlat, ares, isFz, afroz, afrozB, lookupA, lookupH, tops, if_true, if_false, reduceCtorEq, forall_const, ite_true, ite_false, implies_true, walkS, tabS, Try.results41, eq_false e1n, w0, tx, treeL_i]
  refine ex_loop (fun p' : {q : Nat × Nat × List Int × Nat // DlI p xs q.1 q.2.1 q.2.2.1} => mk [(0, .own 0 0 0 xs.length), (1, .clo f cs), (5, .i p'.1.1), (6, .i p'.1.2.1)] [(0, ⟨0, 1, mapC AVal.i p'.1.2.2.1⟩)] p'.1.2.2.2 42) (fun p' => xs.length - p'.1.2.1) ⟨(k0, k0 + 1, xs, 2), ⟨Nat.lt_succ_self _, k1, rfl, ?_, rfl⟩⟩ ?_ ?_
  · show xs.take k0 = keepF p (xs.take (k0 + 1))
    rw [keepF_snoc_no k1 k2, keepF_all]
    intro x hx
    obtain ⟨i, hi, rfl⟩ := List.getElem_of_mem hx
    rw [List.getElem_take]
    simp only [List.length_take] at hi
    exact k3 i (by omega) (by omega)
  · refine weak_mk rfl (by first | exact Nat.le_refl _ | (simp only [mk_gen]; omega)) ?_ ?_ <;> simp +decide only [w_lookup_nil, w_lookup_cons, ch_ch, ch_lit, lit_ch, wkT, wkH, wkB, WVL, WV_refl', Int.natCast_zero, Int.natCast_add, Int.natCast_one, Nat.sub_self, Nat.sub_zero, List.replicate_zero, List.take_zero, List.nil_append, List.append_nil, fillC_zero, Nat.reduceDiv, Nat.reduceAdd, upd_bk, bk_at, getB_zero, getB_succ, modB_zero, modB_succ, rows_lit, repB_zero, repB_succ, List.length_cons, List.length_nil, upd_upd_same, upd_apply, mk_tmp, mk_heap, mk_gen, lookupA, lookupH, List.getD_cons_zero, List.getD_cons_succ, init_two, tops, Bool.true_and, and_self, and_true, true_and, true_or, if_true, if_false, ite_true, ite_false, reduceCtorEq, reduceIte]
  rintro ⟨⟨i, j, Y, G⟩, hI⟩
  have hI' : DlI p xs i j Y := hI
  have i1 := hI'.ij
  have i2 := hI'.jn
  have i3 := hI'.len
  by_cases hlt : j < xs.length
  case neg =>
    have e : j = xs.length := by omega
    subst e
    have hltI : ¬ (xs.length : Int) < (xs.length : Int) := by omega
    have pre := hI'.pre
    rw [List.take_length] at pre
    have il : i ≤ xs.length := by omega
    have hkl : (keepF p xs).length = i := by
      rw [← pre, List.length_take]; omega
    have h1 : i + (xs.length - i) ≤ xs.length := by omega
    have e9 : lay (mapC AVal.i Y) i (mapC AVal.i (List.replicate (xs.length - i) 0)) = mapC AVal.i (keepF p xs ++ List.replicate (xs.length - i) 0) := by
      rw [← pre]
      unfold lay
      simp only [mapC, List.length_map, List.length_replicate]
      rw [List.drop_of_length_le (by simp; omega), List.append_nil, List.map_append, List.map_take]
    have l9 : (keepF p xs ++ List.replicate (xs.length - i) 0).length = xs.length := by rw [List.length_append, hkl, List.length_replicate]; omega
    have t9 : List.take xs.length (keepF p xs ++ List.replicate (xs.length - i) 0) = keepF p xs ++ List.replicate (xs.length - i) 0 := List.take_of_length_le (by omega)
    rw [hkl]
    simp (config := { maxSteps := 1000000 }) +decide only [NoH, Old, OldL, nilQ, nilA, asgn, nz, RechL, ReY, isNew, stepO, XPost, postN, XOk, updN, updU, isEff, avalue, aeff, ASt.eval, ASt.put, ASt.set, ASt.new, Nat.reduceDiv, Nat.reduceAdd, Int.reduceToNat, absV, absC, scalar, alen, acap, conc, flats, live, blkOf, aload, rd, part?, afieldAddr, afield, aindexAddr, cellsOf, afill, places, abuild, optI, asliceV, asliceS, szOk, srcCells, aappend, acopy, aclear, astore, amakeSlice, abuildSlice, snapL, mapO, treeL, AVal.tree, AVal.flatT, isFlat, ares, isFz, afroz, afrozB, lookupA, lookupH, tops, if_true, if_false, reduceCtorEq, forall_const, ite_true, ite_false, implies_true, walkS, tabS, Try.results41, eq_false hltI, il, i3, h1, e9, l9, t9, Nat.zero_le, apostXW_ret]
    refine ⟨mk [(0, .own 0 0 0 xs.length), (4, .lst [] i)] [(0, ⟨0, 1, mapC AVal.i (keepF p xs ++ List.replicate (xs.length - i) 0)⟩)] G 42, .step ?_ (.refl _), ?_⟩
    · refine weak_mk rfl (by first | exact Nat.le_refl _ | (simp only [mk_gen]; omega)) ?_ ?_ <;> simp +decide only [w_lookup_nil, w_lookup_cons, ch_ch, ch_lit, lit_ch, wkT, wkH, wkB, WVL, WV_refl', Int.natCast_zero, Int.natCast_add, Int.natCast_one, Nat.sub_self, Nat.sub_zero, List.replicate_zero, List.take_zero, List.nil_append, List.append_nil, fillC_zero, Nat.reduceDiv, Nat.reduceAdd, upd_bk, bk_at, getB_zero, getB_succ, modB_zero, modB_succ, rows_lit, repB_zero, repB_succ, List.length_cons, List.length_nil, upd_upd_same, upd_apply, mk_tmp, mk_heap, mk_gen, lookupA, lookupH, List.getD_cons_zero, List.getD_cons_succ, init_two, tops, Bool.true_and, and_self, and_true, true_and, true_or, if_true, if_false, ite_true, ite_false, reduceCtorEq, reduceIte]
      exact WV_fgt rfl rfl
    · simp (config := { maxSteps := 1000000 }) +decide only [NoH, Old, OldL, nilQ, nilA, asgn, nz, RechL, ReY, isNew, stepO, XPost, postN, XOk, updN, updU, isEff, avalue, aeff, ASt.eval, ASt.put, ASt.set, ASt.new, Nat.reduceDiv, Nat.reduceAdd, Int.reduceToNat, absV, absC, scalar, alen, acap, conc, flats, live, blkOf, aload, rd, part?, afieldAddr, afield, aindexAddr, cellsOf, afill, places, abuild, optI, asliceV, asliceS, szOk, srcCells, aappend, acopy, aclear, astore, amakeSlice, abuildSlice, snapL, mapO, treeL, AVal.tree, AVal.flatT, isFlat, ares, isFz, afroz, afrozB, lookupA, lookupH, tops, if_true, if_false, reduceCtorEq, forall_const, ite_true, ite_false, implies_true, walkS, tabS, Try.results41, l9, t9, treeL_i, hcs, hm]
  have hltI : (j : Int) < (xs.length : Int) := by omega
  have wj : IntKind.i64.wrap ((j : Int) + 1) = ((j + 1 : Nat) : Int) := wrap64 (by omega) (by omega)
  have hat := hI'.at hlt
  have hjY : j < Y.length := by omega
  have hat2 : (mapC AVal.i Y)[j]? = some (.i xs[j]) := by simp [mapC, hat]
  have hYj : Y[j] = xs[j] := by rw [List.getElem?_eq_getElem hjY] at hat; exact Option.some.inj hat
  simp (config := { maxSteps := 1000000 }) +decide only [NoH, Old, OldL, nilQ, nilA, asgn, nz, RechL, ReY, isNew, stepO, XPost, postN, XOk, updN, updU, isEff, avalue, aeff, ASt.eval, ASt.put, ASt.set, ASt.new, Nat.reduceDiv, Nat.reduceAdd, Int.reduceToNat, absV, absC, scalar, alen, acap, conc, flats, live, blkOf, aload, rd, part?, afieldAddr, afield, aindexAddr, cellsOf, afill, places, abuild, optI, asliceV, asliceS, szOk, srcCells, aappend, acopy, aclear, astore, amakeSlice, abuildSlice, snapL, mapO, treeL, AVal.tree, AVal.flatT, isFlat, ares, isFz, afroz, afrozB, lookupA, lookupH, tops, if_true, if_false, reduceCtorEq, forall_const, ite_true, ite_false, implies_true, walkS, tabS, Try.results41, eq_true hltI, hlt, hat, hat2, hjY, hYj, i3, hs, hcs, List.cons_append]
  refine callK (hp _ (List.getElem_mem hlt)) (by first | exact .inl rfl | exact .inr rfl) ?_
  by_cases c : p xs[j]
  · simp (config := { maxSteps := 1000000 }) +decide only [NoH, Old, OldL, nilQ, nilA, asgn, nz, RechL, ReY, isNew, stepO, XPost, postN, XOk, updN, updU, isEff, avalue, aeff, ASt.eval, ASt.put, ASt.set, ASt.new, Nat.reduceDiv, Nat.reduceAdd, Int.reduceToNat, absV, absC, scalar, alen, acap, conc, flats, live, blkOf, aload, rd, part?, afieldAddr, afield, aindexAddr, cellsOf, afill, places, abuild, optI, asliceV, asliceS, szOk, srcCells, aappend, acopy, aclear, astore, amakeSlice, abuildSlice, snapL, mapO, treeL, AVal.tree, AVal.flatT, isFlat, ares, isFz, afroz, afrozB, lookupA, lookupH, tops, if_true, if_false, reduceCtorEq, forall_const, ite_true, ite_false, implies_true, walkS, tabS, Try.results41, eq_true c, wj]
    refine ⟨⟨(i, j + 1, Y, G), ⟨by show i < j + 1; omega, hlt, i3, by rw [keepF_snoc_no hlt c]; exact hI'.pre, drop_more hI'.post⟩⟩, ?_, by show xs.length - (j + 1) < xs.length - j; omega⟩
    refine weak_mk rfl (by first | exact Nat.le_refl _ | (simp only [mk_gen]; omega)) ?_ ?_ <;> simp +decide only [w_lookup_nil, w_lookup_cons, ch_ch, ch_lit, lit_ch, wkT, wkH, wkB, WVL, WV_refl', Int.natCast_zero, Int.natCast_add, Int.natCast_one, Nat.sub_self, Nat.sub_zero, List.replicate_zero, List.take_zero, List.nil_append, List.append_nil, fillC_zero, Nat.reduceDiv, Nat.reduceAdd, upd_bk, bk_at, getB_zero, getB_succ, modB_zero, modB_succ, rows_lit, repB_zero, repB_succ, List.length_cons, List.length_nil, upd_upd_same, upd_apply, mk_tmp, mk_heap, mk_gen, lookupA, lookupH, List.getD_cons_zero, List.getD_cons_succ, init_two, tops, Bool.true_and, and_self, and_true, true_and, true_or, if_true, if_false, ite_true, ite_false, reduceCtorEq, reduceIte]
  · have wi : IntKind.i64.wrap ((i : Int) + 1) = ((i + 1 : Nat) : Int) := wrap64 (by omega) (by omega)
    have iY : i < Y.length := by omega
    have iX : i < xs.length := by omega
    have iXI : (i : Int) < (xs.length : Int) := by omega
    simp (config := { maxSteps := 1000000 }) +decide only [NoH, Old, OldL, nilQ, nilA, asgn, nz, RechL, ReY, isNew, stepO, XPost, postN, XOk, updN, updU, isEff, avalue, aeff, ASt.eval, ASt.put, ASt.set, ASt.new, Nat.reduceDiv, Nat.reduceAdd, Int.reduceToNat, absV, absC, scalar, alen, acap, conc, flats, live, blkOf, aload, rd, part?, afieldAddr, afield, aindexAddr, cellsOf, afill, places, abuild, optI, asliceV, asliceS, szOk, srcCells, aappend, acopy, aclear, astore, amakeSlice, abuildSlice, snapL, mapO, treeL, AVal.tree, AVal.flatT, isFlat, ares, isFz, afroz, afrozB, lookupA, lookupH, tops, if_true, if_false, reduceCtorEq, forall_const, ite_true, ite_false, implies_true, walkS, tabS, Try.results41, eq_false c, wj, wi, iY, iX, iXI, i3, mapC_set]
    refine ⟨⟨(i + 1, j + 1, Y.set i xs[j], G), ⟨by show i + 1 < j + 1; omega, hlt, by rw [List.length_set]; exact i3, ?_, ?_⟩⟩, ?_, by show xs.length - (j + 1) < xs.length - j; omega⟩
    · show (Y.set i xs[j]).take (i + 1) = keepF p (xs.take (j + 1))
      rw [keepF_snoc hlt c, ← hI'.pre, List.take_succ_eq_append_getElem (by simpa using iY), List.getElem_set_self, List.take_set_of_le (Nat.le_refl _)]
    · show (Y.set i xs[j]).drop (j + 1) = xs.drop (j + 1)
      rw [List.drop_set_of_lt (by omega)]
      exact drop_more hI'.post
    refine weak_mk rfl (by first | exact Nat.le_refl _ | (simp only [mk_gen]; omega)) ?_ ?_ <;> simp +decide only [w_lookup_nil, w_lookup_cons, ch_ch, ch_lit, lit_ch, wkT, wkH, wkB, WVL, WV_refl', Int.natCast_zero, Int.natCast_add, Int.natCast_one, Nat.sub_self, Nat.sub_zero, List.replicate_zero, List.take_zero, List.nil_append, List.append_nil, fillC_zero, Nat.reduceDiv, Nat.reduceAdd, upd_bk, bk_at, getB_zero, getB_succ, modB_zero, modB_succ, rows_lit, repB_zero, repB_succ, List.length_cons, List.length_nil, upd_upd_same, upd_apply, mk_tmp, mk_heap, mk_gen, lookupA, lookupH, List.getD_cons_zero, List.getD_cons_succ, init_two, tops, Bool.true_and, and_self, and_true, true_and, true_or, if_true, if_false, ite_true, ite_false, reduceCtorEq, reduceIte]
theorem den_vi1 {D A : List (List Int)} (h : PrD D A) (L : List Int) (hS : StOk D L) (j : Nat) (hj : j < L.length) : Den Try.prog 43 [.i j, proP D A, .iptr [ints L] 0] (.b (bp (badV D A L (j : Int).toNat = 0))) := by
  have hL := hS.1
  rw [Int.toNat_natCast]
  refine den_of_awp Try.func43 rfl (by kernel_rfl) (Nat.le_of_ble_eq_true rfl) (by simp only [treeL, AVal.tree, treeL_i, treeL_ints, treeL_u8, treeL_append, Bool.and_self, Bool.and_true, Bool.true_and]) (by first | rfl | simp only [treeL, AVal.tree, treeL_i, treeL_ints, treeL_u8, treeL_append, Bool.and_self, Bool.and_true, Bool.true_and]) mixed (by kernel_rfl) fun hl => ?_
  simp only [lensL, lens, lensL_i, lensL_mapC, maxI, and_true, true_and] at hl
  rw [Try.ntmps43]
  refine ex_start ?_
  simp (config := { maxSteps := 1000000 }) +decide only [NoH, Old, OldL, nilQ, nilA, asgn, nz, RechL, ReY, isNew, stepO, XPost, postN, XOk, updN, updU, isEff, avalue, aeff, ASt.eval, ASt.put, ASt.set, ASt.new, Nat.reduceDiv, Nat.reduceAdd, Int.reduceToNat, absV, absC, scalar, alen, acap, conc, flats, live, blkOf, aload, rd, part?, afieldAddr, afield, aindexAddr, cellsOf, afill, places, abuild, optI, asliceV, asliceS, szOk, srcCells, aappend, acopy, aclear, astore, amakeSlice, abuildSlice, snapL, mapO, treeL, AVal.tree, AVal.flatT, isFlat, ares, isFz, afroz, afrozB, lookupA, lookupH, tops, if_true, if_false, reduceCtorEq, forall_const, ite_true, ite_false, implies_true, walkS, tabS, Try.results43]
  refine callK (den_badness h L hS j (by omega)) (by first | exact .inl rfl | exact .inr rfl) ?_
  by_cases c : badV D A L j = 0
  · simp (config := { maxSteps := 1000000 }) +decide only [NoH, Old, OldL, nilQ, nilA, asgn, nz, RechL, ReY, isNew, stepO, XPost, postN, XOk, updN, updU, isEff, avalue, aeff, ASt.eval, ASt.put, ASt.set, ASt.new, Nat.reduceDiv, Nat.reduceAdd, Int.reduceToNat, absV, absC, scalar, alen, acap, conc, flats, live, blkOf, aload, rd, part?, afieldAddr, afield, aindexAddr, cellsOf, afill, places, abuild, optI, asliceV, asliceS, szOk, srcCells, aappend, acopy, aclear, astore, amakeSlice, abuildSlice, snapL, mapO, treeL, AVal.tree, AVal.flatT, isFlat, ares, isFz, afroz, afrozB, lookupA, lookupH, tops, if_true, if_false, reduceCtorEq, forall_const, ite_true, ite_false, implies_true, walkS, tabS, Try.results43, eq_true c]
  · simp (config := { maxSteps := 1000000 }) +decide only [NoH, Old, OldL, nilQ, nilA, asgn, nz, RechL, ReY, isNew, stepO, XPost, postN, XOk, updN, updU, isEff, avalue, aeff, ASt.eval, ASt.put, ASt.set, ASt.new, Nat.reduceDiv, Nat.reduceAdd, Int.reduceToNat, absV, absC, scalar, alen, acap, conc, flats, live, blkOf, aload, rd, part?, afieldAddr, afield, aindexAddr, cellsOf, afill, places, abuild, optI, asliceV, asliceS, szOk, srcCells, aappend, acopy, aclear, astore, amakeSlice, abuildSlice, snapL, mapO, treeL, AVal.tree, AVal.flatT, isFlat, ares, isFz, afroz, afrozB, lookupA, lookupH, tops, if_true, if_false, reduceCtorEq, forall_const, ite_true, ite_false, implies_true, walkS, tabS, Try.results43, eq_false c]
noncomputable def vioN (D A : List (List Int)) (L : List Int) : Nat := (keepF (fun x => badV D A L x.toNat = 0) (itL L.length)).length
theorem den_ViolatingItems {D A : List (List Int)} (h : PrD D A) (L : List Int) (hS : StOk D L) : Den Try.prog 18 [proV D A, ints L] (.tup [.lst [] (vioN D A L), .i 0]) := by
  have hn := h.few
  have hlA := h.len
  have hL := hS.1
  have h0 : stC D A L [] = 0 := stC_zero.2 ⟨h, hS, fun x hx => by simp at hx⟩
  have ds := den_stateCode D A L [] (by omega)
  rw [h0] at ds
  have dI := denx_items D A (by omega)
  rw [← hL] at dI
  have dD := denx_DeleteFunc (itL L.length) 43 [proP D A, .iptr [ints L] 0] (fun x => badV D A L x.toNat = 0) (by simp only [treeL, AVal.tree, treeL_i, treeL_ints, Bool.and_self]) (fun x hx => by
    obtain ⟨j, hj, rfl⟩ := List.mem_map.1 hx
    exact den_vi1 h L hS j (List.mem_range.1 hj)) (fun _ => by simp only [snapL, snap_iptr, treeL, AVal.tree, treeL_i, treeL_ints, Bool.and_self, if_true]) (fun _ => by simp only [mapO, snap_iptr, treeL, AVal.tree, treeL_i, treeL_ints, Bool.and_self, if_true]) (by rw [itL_len]; omega)
  rw [itL_len] at dD
  have li := itL_len L.length
  have ti := List.take_of_length_le (Nat.le_of_eq li)
  have hk := keepF_le (fun x => badV D A L x.toNat = 0) (itL L.length)
  rw [li] at hk
  unfold vioN
  have lk : (keepF (fun x => badV D A L x.toNat = 0) (itL L.length) ++ List.replicate (L.length - (keepF (fun x => badV D A L x.toNat = 0) (itL L.length)).length) 0).length = L.length := by
    rw [List.length_append, List.length_replicate]
    have : (keepF (fun x => badV D A L x.toNat = 0) (itL L.length)).length ≤ L.length := hk
    omega
  refine den_of_awpG (ghs [] [2, 3]) Try.func18 rfl (by kernel_rfl) (Nat.le_of_ble_eq_true rfl) (by simp only [treeL, AVal.tree, treeL_i, treeL_ints, treeL_u8, treeL_append, Bool.and_self, Bool.and_true, Bool.true_and]) (by first | rfl | simp only [treeL, AVal.tree, treeL_i, treeL_ints, treeL_u8, treeL_append, Bool.and_self, Bool.and_true, Bool.true_and]) mixed (by kernel_rfl) fun hl => ?_
  simp only [lensL, lens, lensL_i, lensL_mapC, maxI, and_true, true_and] at hl
  rw [Try.ntmps18]
  refine ex_start ?_
  simp (config := { maxSteps := 1000000 }) +decide only [NoH, Old, OldL, nilQ, nilA, asgn, nz, RechL, ReY, isNew, stepO, XPost, postN, XOk, updN, updU, isEff, avalue, aeff, ASt.eval, ASt.put, ASt.set, ASt.new, Nat.reduceDiv, Nat.reduceAdd, Int.reduceToNat, absV, absC, scalar, alen, acap, conc, flats, live, blkOf, aload, rd, part?, afieldAddr, afield, aindexAddr, cellsOf, afill, places, abuild, optI, asliceV, asliceS, szOk, srcCells, aappend, acopy, aclear, astore, amakeSlice, abuildSlice, snapL, mapO, treeL, AVal.tree, AVal.flatT, isFlat, ares, isFz, afroz, afrozB, lookupA, lookupH, tops, if_true, if_false, reduceCtorEq, forall_const, ite_true, ite_false, implies_true, walkS, tabS, Try.results18]
  refine callK (ds) (by first | exact .inl rfl | exact .inr rfl) ?_
  simp (config := { maxSteps := 1000000 }) +decide only [NoH, Old, OldL, nilQ, nilA, asgn, nz, RechL, ReY, isNew, stepO, XPost, postN, XOk, updN, updU, isEff, avalue, aeff, ASt.eval, ASt.put, ASt.set, ASt.new, Nat.reduceDiv, Nat.reduceAdd, Int.reduceToNat, absV, absC, scalar, alen, acap, conc, flats, live, blkOf, aload, rd, part?, afieldAddr, afield, aindexAddr, cellsOf, afill, places, abuild, optI, asliceV, asliceS, szOk, srcCells, aappend, acopy, aclear, astore, amakeSlice, abuildSlice, snapL, mapO, treeL, AVal.tree, AVal.flatT, isFlat, ares, isFz, afroz, afrozB, lookupA, lookupH, tops, if_true, if_false, reduceCtorEq, forall_const, ite_true, ite_false, implies_true, walkS, tabS, Try.results18]
  refine callX (dI) (by simp (config := { maxSteps := 1000000 }) +decide only [NoH, Old, OldL, nilQ, nilA, asgn, nz, RechL, ReY, isNew, stepO, XPost, postN, XOk, updN, updU, isEff, avalue, aeff, ASt.eval, ASt.put, ASt.set, ASt.new, Nat.reduceDiv, Nat.reduceAdd, Int.reduceToNat, absV, absC, scalar, alen, acap, conc, flats, live, blkOf, aload, rd, part?, afieldAddr, afield, aindexAddr, cellsOf, afill, places, abuild, optI, asliceV, asliceS, szOk, srcCells, aappend, acopy, aclear, astore, amakeSlice, abuildSlice, snapL, mapO, treeL, AVal.tree, AVal.flatT, isFlat, ares, isFz, afroz, afrozB, lookupA, lookupH, tops, if_true, if_false, reduceCtorEq, forall_const, ite_true, ite_false, implies_true, walkS, tabS, Try.results18, li, ti]) ?_
  simp (config := { maxSteps := 1000000 }) +decide only [NoH, Old, OldL, nilQ, nilA, asgn, nz, RechL, ReY, isNew, stepO, XPost, postN, XOk, updN, updU, isEff, avalue, aeff, ASt.eval, ASt.put, ASt.set, ASt.new, Nat.reduceDiv, Nat.reduceAdd, Int.reduceToNat, absV, absC, scalar, alen, acap, conc, flats, live, blkOf, aload, rd, part?, afieldAddr, afield, aindexAddr, cellsOf, afill, places, abuild, optI, asliceV, asliceS, szOk, srcCells, aappend, acopy, aclear, astore, amakeSlice, abuildSlice, snapL, mapO, treeL, AVal.tree, AVal.flatT, isFlat, ares, isFz, afroz, afrozB, lookupA, lookupH, tops, if_true, if_false, reduceCtorEq, forall_const, ite_true, ite_false, implies_true, walkS, tabS, Try.results18, li, ti, treeL_i, treeL_ints]
  refine callX (dD) (by simp (config := { maxSteps := 1000000 }) +decide only [NoH, Old, OldL, nilQ, nilA, asgn, nz, RechL, ReY, isNew, stepO, XPost, postN, XOk, updN, updU, isEff, avalue, aeff, ASt.eval, ASt.put, ASt.set, ASt.new, Nat.reduceDiv, Nat.reduceAdd, Int.reduceToNat, absV, absC, scalar, alen, acap, conc, flats, live, blkOf, aload, rd, part?, afieldAddr, afield, aindexAddr, cellsOf, afill, places, abuild, optI, asliceV, asliceS, szOk, srcCells, aappend, acopy, aclear, astore, amakeSlice, abuildSlice, snapL, mapO, treeL, AVal.tree, AVal.flatT, isFlat, ares, isFz, afroz, afrozB, lookupA, lookupH, tops, if_true, if_false, reduceCtorEq, forall_const, ite_true, ite_false, implies_true, walkS, tabS, Try.results18, li, ti, lk, treeL_i, treeL_ints]) ?_
  simp (config := { maxSteps := 1000000 }) +decide only [NoH, Old, OldL, nilQ, nilA, asgn, nz, RechL, ReY, isNew, stepO, XPost, postN, XOk, updN, updU, isEff, avalue, aeff, ASt.eval, ASt.put, ASt.set, ASt.new, Nat.reduceDiv, Nat.reduceAdd, Int.reduceToNat, absV, absC, scalar, alen, acap, conc, flats, live, blkOf, aload, rd, part?, afieldAddr, afield, aindexAddr, cellsOf, afill, places, abuild, optI, asliceV, asliceS, szOk, srcCells, aappend, acopy, aclear, astore, amakeSlice, abuildSlice, snapL, mapO, treeL, AVal.tree, AVal.flatT, isFlat, ares, isFz, afroz, afrozB, lookupA, lookupH, tops, if_true, if_false, reduceCtorEq, forall_const, ite_true, ite_false, implies_true, walkS, tabS, Try.results18, li, ti, lk, treeL_i, treeL_ints]
end Go.Proofs.Ytkmhoebopfgpdaa
