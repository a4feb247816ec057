/-
  OWN WORK: states of a problem: codes, choices, conflicts.
-/
import Derived.Test.YtkmhoebopfgpdaaChA
import Derived.Test.YtkmhoebopfgpdaaPrG
namespace Go.Proofs.Ytkmhoebopfgpdaa
open Go Go.Own Go.Proofs
set_option maxHeartbeats 4000000
set_option maxRecDepth 20000
set_option linter.unusedSimpArgs false
set_option linter.unusedVariables false
theorem den_absP (n : Int) (h : -1000000 ≤ n ∧ n ≤ 1000000) : Den Try.prog 74 [.i n] (.i (max n (-n))) := by
  refine den_of_awp Try.func74 rfl (by kernel_rfl) (Nat.le_of_ble_eq_true rfl) (by simp only [treeL, AVal.tree, treeL_i, treeL_ints, treeL_u8, treeL_append, Bool.and_self, Bool.and_true, Bool.true_and]) (by first | rfl | simp only [treeL, AVal.tree, treeL_i, treeL_ints, treeL_u8, treeL_append, Bool.and_self, Bool.and_true, Bool.true_and]) mixed (by kernel_rfl) fun hl => ?_
  simp only [lensL, lens, lensL_i, lensL_mapC, maxI, and_true, true_and] at hl
  rw [Try.ntmps74]
  refine ex_start ?_
  have w1 : IntKind.i64.wrap (0 - n) = -n := (wrap64 (by omega) (by omega)).trans (by omega)
  simp (config := { maxSteps := 1000000 }) +decide only [NoH, Old, OldL, nilQ, nilA, asgn, nz, RechL, ReY, isNew, stepO, XPost, postN, XOk, updN, updU, isEff, avalue, aeff, ASt.eval, ASt.put, ASt.set, ASt.new, Nat.reduceDiv, Nat.reduceAdd, Int.reduceToNat, absV, absC, scalar, alen, acap, conc, flats, live, blkOf, aload, rd, part?, afieldAddr, afield, aindexAddr, cellsOf, afill, places, abuild, optI, asliceV, asliceS, szOk, srcCells, aappend, acopy, aclear, astore, amakeSlice, abuildSlice, snapL, mapO, treeL, AVal.tree, AVal.flatT, isFlat, ares, isFz, afroz, afrozB, lookupA, lookupH, tops, if_true, if_false, reduceCtorEq, forall_const, ite_true, ite_false, implies_true, walkS, tabS, Try.results74, w1, sem_mx]
/-- a clash with one of the first of the others -/
def Clash (A : List (List Int)) (L : List Int) (it k : Nat) (c : Int) : Prop := ∃ (j : Nat) (h : j < L.length), j < k ∧ j ≠ it ∧ 0 ≤ L[j] ∧ Near c L[j] (ap A it j)
theorem clash_free {A : List (List Int)} {L : List Int} {it : Nat} {c : Int} : Free A L it c ↔ ¬ Clash A L it L.length c := by
  constructor
  · rintro h ⟨j, hj, _, h1, h2, h3⟩
    exact h j hj h1 h2 h3
  · intro h j hj h1 h2 h3
    exact h ⟨j, hj, hj, h1, h2, h3⟩
theorem clash_zero {A : List (List Int)} {L : List Int} {it : Nat} {c : Int} : ¬ Clash A L it 0 c := fun ⟨_, _, h, _⟩ => absurd h (Nat.not_lt_zero _)
theorem clash_succ {A : List (List Int)} {L : List Int} {it k : Nat} {c : Int} (hk : k < L.length) : Clash A L it (k + 1) c ↔ Clash A L it k c ∨ (k ≠ it ∧ 0 ≤ L[k] ∧ Near c L[k] (ap A it k)) := by
  constructor
  · rintro ⟨j, hj, h0, h1, h2, h3⟩
    by_cases e : j = k
    · subst e; exact .inr ⟨h1, h2, h3⟩
    · exact .inl ⟨j, hj, by omega, h1, h2, h3⟩
  · rintro (⟨j, hj, h0, h1, h2, h3⟩ | ⟨h1, h2, h3⟩)
    · exact ⟨j, hj, by omega, h1, h2, h3⟩
    · exact ⟨k, hk, by omega, h1, h2, h3⟩
theorem denx_choicesV {D A : List (List Int)} (h : PrD D A) (L : List Int) (it : Nat) (hL : L.length ≤ D.length) (hi : it < D.length) (hs : Small L) : DenX Try.prog 37 [.v (proV D A), .v (ints L), xi it] [.v (proV D A), .v (ints L), xi it] (xints (chs D A L it D[it].length)) := by
  refine denx_of_awpG (ghs [] [3, 57]) Try.func37 rfl (by kernel_rfl) (Nat.le_of_ble_eq_true rfl) (by simp +decide only [w_embA_nil, w_embA_cons, w_emb_v, w_emb_ol, w_emb_op, w_emb_agg, w_emb_tup, w_embL_nil, w_embL_cons, embL_i, List.map_cons, List.map_nil, List.nil_append, List.append_nil, List.cons_append, List.nodup_cons, List.nodup_nil, List.mem_cons, List.mem_nil_iff, List.not_mem_nil, ch_ch, ch_lit, lit_ch, Nat.reduceAdd]) mixed (by kernel_rfl) fun hl => ?_
  simp only [xlensL, xlens, lensL, lens, lensL_i, lensL_mapC, xlensL_i, maxI, and_true, true_and] at hl
  rw [Try.ntmps37]
  refine ex_start ?_
  have hn6 := h.few
  have hlA := h.len
  have hiA : it < A.length := by omega
  have hr := h.rl hiA
  have hd := h.dom _ (List.getElem_mem hi)
  have hdl := hd.few
  have eD : D.getD it [] = D[it] := by rw [List.getD_eq_getElem?_getD, List.getElem?_eq_getElem hi, Option.getD_some]
  have tL : List.take L.length L = L := List.take_of_length_le (by omega)
  simp (config := { maxSteps := 1000000 }) +decide only [NoH, Old, OldL, nilQ, nilA, asgn, nz, RechL, ReY, isNew, stepO, XPost, postN, XOk, updN, updU, isEff, avalue, aeff, ASt.eval, ASt.put, ASt.set, ASt.new, Nat.reduceDiv, Nat.reduceAdd, Int.reduceToNat, absV, absC, scalar, alen, acap, conc, flats, live, blkOf, aload, rd, part?, afieldAddr, afield, aindexAddr, cellsOf, afill, places, abuild, optI, asliceV, asliceS, szOk, srcCells, aappend, acopy, aclear, astore, amakeSlice, abuildSlice, snapL, mapO, treeL, AVal.tree, AVal.flatT, isFlat, ares, isFz, afroz, afrozB, lookupA, lookupH, tops, if_true, if_false, reduceCtorEq, forall_const, ite_true, ite_false, implies_true, walkS, tabS, Try.results37, hi]
  refine ex_loop (fun p : {p : Nat × Nat × Nat // p.1 ≤ D[it].length} => mkG (ghs [] [3, 57]) [(1, ints L), (2, .i it), (3, proP D A), (7, .own 58 p.1.2.1 0 (chs D A L it p.1.1).length), (17, ints D[it]), (18, .i D[it].length), (19, .i p.1.1)] [(58, ⟨p.1.2.1, 1, mapC AVal.i (chs D A L it p.1.1)⟩)] p.1.2.2 61) (fun p => D[it].length - p.1.1) ⟨(0, 1, 2), Nat.zero_le _⟩ ?_ ?_
  · have e0 : chs D A L it 0 = [] := by simp [chs]
    refine weak_mk rfl (by first | exact Nat.le_refl _ | (simp only [mk_gen]; omega)) ?_ ?_ <;> simp +decide only [w_lookup_nil, w_lookup_cons, ch_ch, ch_lit, lit_ch, wkT, wkH, wkB, WVL, WV_refl', Int.natCast_zero, Int.natCast_add, Int.natCast_one, Nat.sub_self, Nat.sub_zero, List.replicate_zero, List.take_zero, List.nil_append, List.append_nil, fillC_zero, Nat.reduceDiv, Nat.reduceAdd, upd_bk, bk_at, getB_zero, getB_succ, modB_zero, modB_succ, rows_lit, repB_zero, repB_succ, List.length_cons, List.length_nil, upd_upd_same, upd_apply, mk_tmp, mk_heap, mk_gen, lookupA, lookupH, List.getD_cons_zero, List.getD_cons_succ, init_two, tops, Bool.true_and, and_self, and_true, true_and, true_or, if_true, if_false, ite_true, ite_false, reduceCtorEq, reduceIte, e0, mapC_nil, List.length_nil]
    exact WV_nl rfl rfl rfl rfl
  rintro ⟨⟨k, g, G⟩, hk⟩
  have hk' : k ≤ D[it].length := hk
  by_cases hlt : k < D[it].length
  case neg =>
    have e : k = D[it].length := by omega
    subst e
    have t1 : List.take (chs D A L it D[it].length).length (chs D A L it D[it].length) = chs D A L it D[it].length := List.take_of_length_le (Nat.le_refl _)
    simp (config := { maxSteps := 1000000 }) +decide only [NoH, Old, OldL, nilQ, nilA, asgn, nz, RechL, ReY, isNew, stepO, XPost, postN, XOk, updN, updU, isEff, avalue, aeff, ASt.eval, ASt.put, ASt.set, ASt.new, Nat.reduceDiv, Nat.reduceAdd, Int.reduceToNat, absV, absC, scalar, alen, acap, conc, flats, live, blkOf, aload, rd, part?, afieldAddr, afield, aindexAddr, cellsOf, afill, places, abuild, optI, asliceV, asliceS, szOk, srcCells, aappend, acopy, aclear, astore, amakeSlice, abuildSlice, snapL, mapO, treeL, AVal.tree, AVal.flatT, isFlat, ares, isFz, afroz, afrozB, lookupA, lookupH, tops, if_true, if_false, reduceCtorEq, forall_const, ite_true, ite_false, implies_true, walkS, tabS, Try.results37, hi, hlt, tL, t1]
  have hltI : (k : Int) < (D[it].length : Int) := by omega
  have hw : IntKind.i64.wrap ((k : Int) + 1) = ((k + 1 : Nat) : Int) := wrap64 (by omega) (by omega)
  have hc := (hd.up k hlt).1
  have hle := chs_le D A L it k
  rw [eD] at hle
  have h8 : ((chs D A L it k).length + 1) * 8 ≤ 140737488355328 := by omega
  have tc : List.take (chs D A L it k).length (chs D A L it k) = chs D A L it k := List.take_of_length_le (Nat.le_refl _)
  have es : chs D A L it (k + 1) = if bp (Free A L it D[it][k]) = true then chs D A L it k ++ [D[it][k]] else chs D A L it k := by
    unfold chs
    rw [eD, List.take_succ_eq_append_getElem hlt, List.filter_append]
    simp only [List.filter_cons, List.filter_nil]
    split
    · rfl
    · rw [List.append_nil]
  generalize hcc : D[it][k] = c at *
  simp (config := { maxSteps := 1000000 }) +decide only [NoH, Old, OldL, nilQ, nilA, asgn, nz, RechL, ReY, isNew, stepO, XPost, postN, XOk, updN, updU, isEff, avalue, aeff, ASt.eval, ASt.put, ASt.set, ASt.new, Nat.reduceDiv, Nat.reduceAdd, Int.reduceToNat, absV, absC, scalar, alen, acap, conc, flats, live, blkOf, aload, rd, part?, afieldAddr, afield, aindexAddr, cellsOf, afill, places, abuild, optI, asliceV, asliceS, szOk, srcCells, aappend, acopy, aclear, astore, amakeSlice, abuildSlice, snapL, mapO, treeL, AVal.tree, AVal.flatT, isFlat, ares, isFz, afroz, afrozB, lookupA, lookupH, tops, if_true, if_false, reduceCtorEq, forall_const, ite_true, ite_false, implies_true, walkS, tabS, Try.results37, hi, hlt, hltI, hcc]
  refine ex_loop (fun p : {p : Nat × Bool // p.1 ≤ L.length ∧ (p.2 = true ↔ Clash A L it p.1 c)} => mkG (ghs [] [3, 57]) [(1, ints L), (2, .i it), (3, proP D A), (7, .own 58 g 0 (chs D A L it k).length), (9, .i c), (10, .b p.1.2), (17, ints D[it]), (18, .i D[it].length), (19, .i k), (23, ints L), (24, .i L.length), (25, .i p.1.1)] [(58, ⟨g, 1, mapC AVal.i (chs D A L it k)⟩)] G 61) (fun p => L.length - p.1.1) ⟨(0, false), Nat.zero_le _, ⟨fun h => by simp at h, fun h => (clash_zero h).elim⟩⟩ ?_ ?_
  · refine weak_mk rfl (by first | exact Nat.le_refl _ | (simp only [mk_gen]; omega)) ?_ ?_ <;> simp +decide only [w_lookup_nil, w_lookup_cons, ch_ch, ch_lit, lit_ch, wkT, wkH, wkB, WVL, WV_refl', Int.natCast_zero, Int.natCast_add, Int.natCast_one, Nat.sub_self, Nat.sub_zero, List.replicate_zero, List.take_zero, List.nil_append, List.append_nil, fillC_zero, Nat.reduceDiv, Nat.reduceAdd, upd_bk, bk_at, getB_zero, getB_succ, modB_zero, modB_succ, rows_lit, repB_zero, repB_succ, List.length_cons, List.length_nil, upd_upd_same, upd_apply, mk_tmp, mk_heap, mk_gen, lookupA, lookupH, List.getD_cons_zero, List.getD_cons_succ, init_two, tops, Bool.true_and, and_self, and_true, true_and, true_or, if_true, if_false, ite_true, ite_false, reduceCtorEq, reduceIte]
  rintro ⟨⟨j, x⟩, hj, hx⟩
  have hj' : j ≤ L.length := hj
  have hx' : x = true ↔ Clash A L it j c := hx
  by_cases jlt : j < L.length
  case neg =>
    have e : j = L.length := by omega
    subst e
    have jI : ¬ (L.length : Int) < (L.length : Int) := by omega
    cases x
    case true =>
      have hf : ¬ Free A L it c := fun hf => (clash_free.1 hf) (hx'.1 rfl)
      have es' : chs D A L it (k + 1) = chs D A L it k := by rw [es, if_neg (by rw [bp_true]; exact hf)]
      simp (config := { maxSteps := 1000000 }) +decide only [NoH, Old, OldL, nilQ, nilA, asgn, nz, RechL, ReY, isNew, stepO, XPost, postN, XOk, updN, updU, isEff, avalue, aeff, ASt.eval, ASt.put, ASt.set, ASt.new, Nat.reduceDiv, Nat.reduceAdd, Int.reduceToNat, absV, absC, scalar, alen, acap, conc, flats, live, blkOf, aload, rd, part?, afieldAddr, afield, aindexAddr, cellsOf, afill, places, abuild, optI, asliceV, asliceS, szOk, srcCells, aappend, acopy, aclear, astore, amakeSlice, abuildSlice, snapL, mapO, treeL, AVal.tree, AVal.flatT, isFlat, ares, isFz, afroz, afrozB, lookupA, lookupH, tops, if_true, if_false, reduceCtorEq, forall_const, ite_true, ite_false, implies_true, walkS, tabS, Try.results37, eq_false jI, hw]
      refine ⟨⟨(k + 1, g, G), hlt⟩, ?_, by show D[it].length - (k + 1) < D[it].length - k; omega⟩
      refine weak_mk rfl (by first | exact Nat.le_refl _ | (simp only [mk_gen]; omega)) ?_ ?_ <;> simp +decide only [w_lookup_nil, w_lookup_cons, ch_ch, ch_lit, lit_ch, wkT, wkH, wkB, WVL, WV_refl', Int.natCast_zero, Int.natCast_add, Int.natCast_one, Nat.sub_self, Nat.sub_zero, List.replicate_zero, List.take_zero, List.nil_append, List.append_nil, fillC_zero, Nat.reduceDiv, Nat.reduceAdd, upd_bk, bk_at, getB_zero, getB_succ, modB_zero, modB_succ, rows_lit, repB_zero, repB_succ, List.length_cons, List.length_nil, upd_upd_same, upd_apply, mk_tmp, mk_heap, mk_gen, lookupA, lookupH, List.getD_cons_zero, List.getD_cons_succ, init_two, tops, Bool.true_and, and_self, and_true, true_and, true_or, if_true, if_false, ite_true, ite_false, reduceCtorEq, reduceIte, es']
    case false =>
      have hf : Free A L it c := clash_free.2 fun hc => by have := hx'.2 hc; simp at this
      have es' : chs D A L it (k + 1) = chs D A L it k ++ [c] := by rw [es, if_pos (by rw [bp_true]; exact hf)]
      simp (config := { maxSteps := 1000000 }) +decide only [NoH, Old, OldL, nilQ, nilA, asgn, nz, RechL, ReY, isNew, stepO, XPost, postN, XOk, updN, updU, isEff, avalue, aeff, ASt.eval, ASt.put, ASt.set, ASt.new, Nat.reduceDiv, Nat.reduceAdd, Int.reduceToNat, absV, absC, scalar, alen, acap, conc, flats, live, blkOf, aload, rd, part?, afieldAddr, afield, aindexAddr, cellsOf, afill, places, abuild, optI, asliceV, asliceS, szOk, srcCells, aappend, acopy, aclear, astore, amakeSlice, abuildSlice, snapL, mapO, treeL, AVal.tree, AVal.flatT, isFlat, ares, isFz, afroz, afrozB, lookupA, lookupH, tops, if_true, if_false, reduceCtorEq, forall_const, ite_true, ite_false, implies_true, walkS, tabS, Try.results37, eq_false jI, hw, h8, tc, List.replicate_succ, List.flatten_cons, List.flatten_nil, mapC_snoc]
      refine ⟨⟨(k + 1, G, G + 1), hlt⟩, ?_, by show D[it].length - (k + 1) < D[it].length - k; omega⟩
      refine weak_mk rfl (by first | exact Nat.le_refl _ | (simp only [mk_gen]; omega)) ?_ ?_ <;> simp +decide only [w_lookup_nil, w_lookup_cons, ch_ch, ch_lit, lit_ch, wkT, wkH, wkB, WVL, WV_refl', Int.natCast_zero, Int.natCast_add, Int.natCast_one, Nat.sub_self, Nat.sub_zero, List.replicate_zero, List.take_zero, List.nil_append, List.append_nil, fillC_zero, Nat.reduceDiv, Nat.reduceAdd, upd_bk, bk_at, getB_zero, getB_succ, modB_zero, modB_succ, rows_lit, repB_zero, repB_succ, List.length_cons, List.length_nil, upd_upd_same, upd_apply, mk_tmp, mk_heap, mk_gen, lookupA, lookupH, List.getD_cons_zero, List.getD_cons_succ, init_two, tops, Bool.true_and, and_self, and_true, true_and, true_or, if_true, if_false, ite_true, ite_false, reduceCtorEq, reduceIte, es', List.length_append, List.length_cons, List.length_nil, Nat.zero_add]
  have jI : (j : Int) < (L.length : Int) := by omega
  have wj : IntKind.i64.wrap ((j : Int) + 1) = ((j + 1 : Nat) : Int) := wrap64 (by omega) (by omega)
  have hsj := hs j jlt
  have hjr : j < A[it].length := by omega
  have eap : ap A (it : Int) (j : Int) = A[it][j] := by
    unfold ap
    rw [Int.toNat_natCast, Int.toNat_natCast]
    exact gdd hiA hjr
  have hsu := clash_succ (A := A) (it := it) (c := c) jlt
  by_cases h1 : j = it
  · have hy : x = true ↔ Clash A L it (j + 1) c := by rw [hx', hsu]; exact ⟨.inl, fun h => h.elim id fun h => absurd h1 h.1⟩
    subst h1
    simp (config := { maxSteps := 1000000 }) +decide only [NoH, Old, OldL, nilQ, nilA, asgn, nz, RechL, ReY, isNew, stepO, XPost, postN, XOk, updN, updU, isEff, avalue, aeff, ASt.eval, ASt.put, ASt.set, ASt.new, Nat.reduceDiv, Nat.reduceAdd, Int.reduceToNat, absV, absC, scalar, alen, acap, conc, flats, live, blkOf, aload, rd, part?, afieldAddr, afield, aindexAddr, cellsOf, afill, places, abuild, optI, asliceV, asliceS, szOk, srcCells, aappend, acopy, aclear, astore, amakeSlice, abuildSlice, snapL, mapO, treeL, AVal.tree, AVal.flatT, isFlat, ares, isFz, afroz, afrozB, lookupA, lookupH, tops, if_true, if_false, reduceCtorEq, forall_const, ite_true, ite_false, implies_true, walkS, tabS, Try.results37, eq_true jI, jlt, wj]
    refine ⟨⟨(j + 1, x), jlt, hy⟩, ?_, by show L.length - (j + 1) < L.length - j; omega⟩
    refine weak_mk rfl (by first | exact Nat.le_refl _ | (simp only [mk_gen]; omega)) ?_ ?_ <;> simp +decide only [w_lookup_nil, w_lookup_cons, ch_ch, ch_lit, lit_ch, wkT, wkH, wkB, WVL, WV_refl', Int.natCast_zero, Int.natCast_add, Int.natCast_one, Nat.sub_self, Nat.sub_zero, List.replicate_zero, List.take_zero, List.nil_append, List.append_nil, fillC_zero, Nat.reduceDiv, Nat.reduceAdd, upd_bk, bk_at, getB_zero, getB_succ, modB_zero, modB_succ, rows_lit, repB_zero, repB_succ, List.length_cons, List.length_nil, upd_upd_same, upd_apply, mk_tmp, mk_heap, mk_gen, lookupA, lookupH, List.getD_cons_zero, List.getD_cons_succ, init_two, tops, Bool.true_and, and_self, and_true, true_and, true_or, if_true, if_false, ite_true, ite_false, reduceCtorEq, reduceIte]
  have h1I : ¬ (j : Int) = (it : Int) := by omega
  by_cases h2 : 0 ≤ L[j]
  case neg =>
    have hy : x = true ↔ Clash A L it (j + 1) c := by rw [hx', hsu]; exact ⟨.inl, fun h => h.elim id fun h => absurd h.2.1 h2⟩
    simp (config := { maxSteps := 1000000 }) +decide only [NoH, Old, OldL, nilQ, nilA, asgn, nz, RechL, ReY, isNew, stepO, XPost, postN, XOk, updN, updU, isEff, avalue, aeff, ASt.eval, ASt.put, ASt.set, ASt.new, Nat.reduceDiv, Nat.reduceAdd, Int.reduceToNat, absV, absC, scalar, alen, acap, conc, flats, live, blkOf, aload, rd, part?, afieldAddr, afield, aindexAddr, cellsOf, afill, places, abuild, optI, asliceV, asliceS, szOk, srcCells, aappend, acopy, aclear, astore, amakeSlice, abuildSlice, snapL, mapO, treeL, AVal.tree, AVal.flatT, isFlat, ares, isFz, afroz, afrozB, lookupA, lookupH, tops, if_true, if_false, reduceCtorEq, forall_const, ite_true, ite_false, implies_true, walkS, tabS, Try.results37, eq_true jI, jlt, wj, eq_false h1, eq_false h1I, eq_false h2]
    refine ⟨⟨(j + 1, x), jlt, hy⟩, ?_, by show L.length - (j + 1) < L.length - j; omega⟩
    refine weak_mk rfl (by first | exact Nat.le_refl _ | (simp only [mk_gen]; omega)) ?_ ?_ <;> simp +decide only [w_lookup_nil, w_lookup_cons, ch_ch, ch_lit, lit_ch, wkT, wkH, wkB, WVL, WV_refl', Int.natCast_zero, Int.natCast_add, Int.natCast_one, Nat.sub_self, Nat.sub_zero, List.replicate_zero, List.take_zero, List.nil_append, List.append_nil, fillC_zero, Nat.reduceDiv, Nat.reduceAdd, upd_bk, bk_at, getB_zero, getB_succ, modB_zero, modB_succ, rows_lit, repB_zero, repB_succ, List.length_cons, List.length_nil, upd_upd_same, upd_apply, mk_tmp, mk_heap, mk_gen, lookupA, lookupH, List.getD_cons_zero, List.getD_cons_succ, init_two, tops, Bool.true_and, and_self, and_true, true_and, true_or, if_true, if_false, ite_true, ite_false, reduceCtorEq, reduceIte]
  have ws : IntKind.i64.wrap (c - L[j]) = c - L[j] := wrap64 (by omega) (by omega)
  simp (config := { maxSteps := 1000000 }) +decide only [NoH, Old, OldL, nilQ, nilA, asgn, nz, RechL, ReY, isNew, stepO, XPost, postN, XOk, updN, updU, isEff, avalue, aeff, ASt.eval, ASt.put, ASt.set, ASt.new, Nat.reduceDiv, Nat.reduceAdd, Int.reduceToNat, absV, absC, scalar, alen, acap, conc, flats, live, blkOf, aload, rd, part?, afieldAddr, afield, aindexAddr, cellsOf, afill, places, abuild, optI, asliceV, asliceS, szOk, srcCells, aappend, acopy, aclear, astore, amakeSlice, abuildSlice, snapL, mapO, treeL, AVal.tree, AVal.flatT, isFlat, ares, isFz, afroz, afrozB, lookupA, lookupH, tops, if_true, if_false, reduceCtorEq, forall_const, ite_true, ite_false, implies_true, walkS, tabS, Try.results37, eq_true jI, jlt, wj, eq_false h1, eq_false h1I, eq_true h2, ws]
  refine callK (den_absP (c - L[j]) (by omega)) (by first | exact .inl rfl | exact .inr rfl) ?_
  by_cases h3 : max (c - L[j]) (-(c - L[j])) < A[it][j]
  · have hN : Near c L[j] (ap A it j) := by rw [eap]; unfold Near; omega
    have hy : (true = true) ↔ Clash A L it (j + 1) c := ⟨fun _ => hsu.2 (.inr ⟨h1, h2, hN⟩), fun _ => rfl⟩
    simp (config := { maxSteps := 1000000 }) +decide only [NoH, Old, OldL, nilQ, nilA, asgn, nz, RechL, ReY, isNew, stepO, XPost, postN, XOk, updN, updU, isEff, avalue, aeff, ASt.eval, ASt.put, ASt.set, ASt.new, Nat.reduceDiv, Nat.reduceAdd, Int.reduceToNat, absV, absC, scalar, alen, acap, conc, flats, live, blkOf, aload, rd, part?, afieldAddr, afield, aindexAddr, cellsOf, afill, places, abuild, optI, asliceV, asliceS, szOk, srcCells, aappend, acopy, aclear, astore, amakeSlice, abuildSlice, snapL, mapO, treeL, AVal.tree, AVal.flatT, isFlat, ares, isFz, afroz, afrozB, lookupA, lookupH, tops, if_true, if_false, reduceCtorEq, forall_const, ite_true, ite_false, implies_true, walkS, tabS, Try.results37, hiA, hjr, eq_true h3, wj]
    refine ⟨⟨(j + 1, true), jlt, hy⟩, ?_, by show L.length - (j + 1) < L.length - j; omega⟩
    refine weak_mk rfl (by first | exact Nat.le_refl _ | (simp only [mk_gen]; omega)) ?_ ?_ <;> simp +decide only [w_lookup_nil, w_lookup_cons, ch_ch, ch_lit, lit_ch, wkT, wkH, wkB, WVL, WV_refl', Int.natCast_zero, Int.natCast_add, Int.natCast_one, Nat.sub_self, Nat.sub_zero, List.replicate_zero, List.take_zero, List.nil_append, List.append_nil, fillC_zero, Nat.reduceDiv, Nat.reduceAdd, upd_bk, bk_at, getB_zero, getB_succ, modB_zero, modB_succ, rows_lit, repB_zero, repB_succ, List.length_cons, List.length_nil, upd_upd_same, upd_apply, mk_tmp, mk_heap, mk_gen, lookupA, lookupH, List.getD_cons_zero, List.getD_cons_succ, init_two, tops, Bool.true_and, and_self, and_true, true_and, true_or, if_true, if_false, ite_true, ite_false, reduceCtorEq, reduceIte]
  · have hN : ¬ Near c L[j] (ap A it j) := by rw [eap]; unfold Near; omega
    have hy : x = true ↔ Clash A L it (j + 1) c := by rw [hx', hsu]; exact ⟨.inl, fun h => h.elim id fun h => absurd h.2.2 hN⟩
    simp (config := { maxSteps := 1000000 }) +decide only [NoH, Old, OldL, nilQ, nilA, asgn, nz, RechL, ReY, isNew, stepO, XPost, postN, XOk, updN, updU, isEff, avalue, aeff, ASt.eval, ASt.put, ASt.set, ASt.new, Nat.reduceDiv, Nat.reduceAdd, Int.reduceToNat, absV, absC, scalar, alen, acap, conc, flats, live, blkOf, aload, rd, part?, afieldAddr, afield, aindexAddr, cellsOf, afill, places, abuild, optI, asliceV, asliceS, szOk, srcCells, aappend, acopy, aclear, astore, amakeSlice, abuildSlice, snapL, mapO, treeL, AVal.tree, AVal.flatT, isFlat, ares, isFz, afroz, afrozB, lookupA, lookupH, tops, if_true, if_false, reduceCtorEq, forall_const, ite_true, ite_false, implies_true, walkS, tabS, Try.results37, hiA, hjr, eq_false h3, wj]
    refine ⟨⟨(j + 1, x), jlt, hy⟩, ?_, by show L.length - (j + 1) < L.length - j; omega⟩
    refine weak_mk rfl (by first | exact Nat.le_refl _ | (simp only [mk_gen]; omega)) ?_ ?_ <;> simp +decide only [w_lookup_nil, w_lookup_cons, ch_ch, ch_lit, lit_ch, wkT, wkH, wkB, WVL, WV_refl', Int.natCast_zero, Int.natCast_add, Int.natCast_one, Nat.sub_self, Nat.sub_zero, List.replicate_zero, List.take_zero, List.nil_append, List.append_nil, fillC_zero, Nat.reduceDiv, Nat.reduceAdd, upd_bk, bk_at, getB_zero, getB_succ, modB_zero, modB_succ, rows_lit, repB_zero, repB_succ, List.length_cons, List.length_nil, upd_upd_same, upd_apply, mk_tmp, mk_heap, mk_gen, lookupA, lookupH, List.getD_cons_zero, List.getD_cons_succ, init_two, tops, Bool.true_and, and_self, and_true, true_and, true_or, if_true, if_false, ite_true, ite_false, reduceCtorEq, reduceIte]
/-- whether a state, and its code -/
def StOk (D : List (List Int)) (L : List Int) : Prop := L.length = D.length ∧ ∀ x ∈ L, 0 ≤ x ∧ x ≤ 999
def AllIn (I : List Int) (n : Nat) : Prop := ∀ x ∈ I, 0 ≤ x ∧ x ≤ (n : Int) - 1
noncomputable def stC (D A : List (List Int)) (L I : List Int) : Int :=
  if bp (PrD D A) = true then (if bp (StOk D L) = true then (if bp (AllIn I L.length) = true then 0 else 2) else 6) else 1
theorem stC_zero {D A : List (List Int)} {L I : List Int} : stC D A L I = 0 ↔ PrD D A ∧ StOk D L ∧ AllIn I L.length := by
  unfold stC
  split
  · rename_i h1
    rw [bp_true] at h1
    split
    · rename_i h2
      rw [bp_true] at h2
      split
      · rename_i h3
        rw [bp_true] at h3
        exact ⟨fun _ => ⟨h1, h2, h3⟩, fun _ => rfl⟩
      · rename_i h3
        rw [bp_true] at h3
        exact ⟨fun h => by simp at h, fun h => absurd h.2.2 h3⟩
    · rename_i h2
      rw [bp_true] at h2
      exact ⟨fun h => by simp at h, fun h => absurd h.2.1 h2⟩
  · rename_i h1
    rw [bp_true] at h1
    exact ⟨fun h => by simp at h, fun h => absurd h.1 h1⟩
theorem stC_in (D A : List (List Int)) (L I : List Int) : 0 ≤ stC D A L I ∧ stC D A L I ≤ 6 := by
  unfold stC
  split
  · split
    · split <;> omega
    · omega
  · omega
theorem den_stateCode (D A : List (List Int)) (L I : List Int) (hA : A.length ≤ 1000000) : Den Try.prog 36 [proV D A, ints L, ints I] (.i (stC D A L I)) := by
  unfold stC
  refine den_of_awpG (ghs [] [3]) Try.func36 rfl (by kernel_rfl) (Nat.le_of_ble_eq_true rfl) (by simp only [treeL, AVal.tree, treeL_i, treeL_ints, treeL_u8, treeL_append, Bool.and_self, Bool.and_true, Bool.true_and]) (by first | rfl | simp only [treeL, AVal.tree, treeL_i, treeL_ints, treeL_u8, treeL_append, Bool.and_self, Bool.and_true, Bool.true_and]) mixed (by kernel_rfl) fun hl => ?_
  simp only [lensL, lens, lensL_i, lensL_mapC, maxI, and_true, true_and] at hl
  rw [Try.ntmps36]
  refine ex_start ?_
  simp (config := { maxSteps := 1000000 }) +decide only [NoH, Old, OldL, nilQ, nilA, asgn, nz, RechL, ReY, isNew, stepO, XPost, postN, XOk, updN, updU, isEff, avalue, aeff, ASt.eval, ASt.put, ASt.set, ASt.new, Nat.reduceDiv, Nat.reduceAdd, Int.reduceToNat, absV, absC, scalar, alen, acap, conc, flats, live, blkOf, aload, rd, part?, afieldAddr, afield, aindexAddr, cellsOf, afill, places, abuild, optI, asliceV, asliceS, szOk, srcCells, aappend, acopy, aclear, astore, amakeSlice, abuildSlice, snapL, mapO, treeL, AVal.tree, AVal.flatT, isFlat, ares, isFz, afroz, afrozB, lookupA, lookupH, tops, if_true, if_false, reduceCtorEq, forall_const, ite_true, ite_false, implies_true, walkS, tabS, Try.results36]
  refine callK (den_ValidProblemG D A hA) (by first | exact .inl rfl | exact .inr rfl) ?_
  by_cases c1 : PrD D A
  case neg =>
    have b1 : bp (PrD D A) = false := by rw [bp_false]; exact c1
    simp (config := { maxSteps := 1000000 }) +decide only [NoH, Old, OldL, nilQ, nilA, asgn, nz, RechL, ReY, isNew, stepO, XPost, postN, XOk, updN, updU, isEff, avalue, aeff, ASt.eval, ASt.put, ASt.set, ASt.new, Nat.reduceDiv, Nat.reduceAdd, Int.reduceToNat, absV, absC, scalar, alen, acap, conc, flats, live, blkOf, aload, rd, part?, afieldAddr, afield, aindexAddr, cellsOf, afill, places, abuild, optI, asliceV, asliceS, szOk, srcCells, aappend, acopy, aclear, astore, amakeSlice, abuildSlice, snapL, mapO, treeL, AVal.tree, AVal.flatT, isFlat, ares, isFz, afroz, afrozB, lookupA, lookupH, tops, if_true, if_false, reduceCtorEq, forall_const, ite_true, ite_false, implies_true, walkS, tabS, Try.results36, b1]
    try rfl
  have b1 : bp (PrD D A) = true := by rw [bp_true]; exact c1
  have hn := c1.few
  by_cases c2 : L.length = D.length
  case neg =>
    have c2I : ¬ (L.length : Int) = (D.length : Int) := by omega
    have b2 : bp (StOk D L) = false := by rw [bp_false]; exact fun h => c2 h.1
    simp (config := { maxSteps := 1000000 }) +decide only [NoH, Old, OldL, nilQ, nilA, asgn, nz, RechL, ReY, isNew, stepO, XPost, postN, XOk, updN, updU, isEff, avalue, aeff, ASt.eval, ASt.put, ASt.set, ASt.new, Nat.reduceDiv, Nat.reduceAdd, Int.reduceToNat, absV, absC, scalar, alen, acap, conc, flats, live, blkOf, aload, rd, part?, afieldAddr, afield, aindexAddr, cellsOf, afill, places, abuild, optI, asliceV, asliceS, szOk, srcCells, aappend, acopy, aclear, astore, amakeSlice, abuildSlice, snapL, mapO, treeL, AVal.tree, AVal.flatT, isFlat, ares, isFz, afroz, afrozB, lookupA, lookupH, tops, if_true, if_false, reduceCtorEq, forall_const, ite_true, ite_false, implies_true, walkS, tabS, Try.results36, b1, b2, eq_false c2I]
    try rfl
  have c2I : (L.length : Int) = (D.length : Int) := by omega
  simp (config := { maxSteps := 1000000 }) +decide only [NoH, Old, OldL, nilQ, nilA, asgn, nz, RechL, ReY, isNew, stepO, XPost, postN, XOk, updN, updU, isEff, avalue, aeff, ASt.eval, ASt.put, ASt.set, ASt.new, Nat.reduceDiv, Nat.reduceAdd, Int.reduceToNat, absV, absC, scalar, alen, acap, conc, flats, live, blkOf, aload, rd, part?, afieldAddr, afield, aindexAddr, cellsOf, afill, places, abuild, optI, asliceV, asliceS, szOk, srcCells, aappend, acopy, aclear, astore, amakeSlice, abuildSlice, snapL, mapO, treeL, AVal.tree, AVal.flatT, isFlat, ares, isFz, afroz, afrozB, lookupA, lookupH, tops, if_true, if_false, reduceCtorEq, forall_const, ite_true, ite_false, implies_true, walkS, tabS, Try.results36, b1, eq_true c2I]
  refine callK (den_allWithin L 0 999) (by first | exact .inl rfl | exact .inr rfl) ?_
  by_cases c3 : ∀ x ∈ L, 0 ≤ x ∧ x ≤ 999
  case neg =>
    have b2 : bp (StOk D L) = false := by rw [bp_false]; exact fun h => c3 h.2
    simp (config := { maxSteps := 1000000 }) +decide only [NoH, Old, OldL, nilQ, nilA, asgn, nz, RechL, ReY, isNew, stepO, XPost, postN, XOk, updN, updU, isEff, avalue, aeff, ASt.eval, ASt.put, ASt.set, ASt.new, Nat.reduceDiv, Nat.reduceAdd, Int.reduceToNat, absV, absC, scalar, alen, acap, conc, flats, live, blkOf, aload, rd, part?, afieldAddr, afield, aindexAddr, cellsOf, afill, places, abuild, optI, asliceV, asliceS, szOk, srcCells, aappend, acopy, aclear, astore, amakeSlice, abuildSlice, snapL, mapO, treeL, AVal.tree, AVal.flatT, isFlat, ares, isFz, afroz, afrozB, lookupA, lookupH, tops, if_true, if_false, reduceCtorEq, forall_const, ite_true, ite_false, implies_true, walkS, tabS, Try.results36, b2, eq_false c3]
    try rfl
  have b2 : bp (StOk D L) = true := by rw [bp_true]; exact ⟨c2, c3⟩
  have w1 : IntKind.i64.wrap ((L.length : Int) - 1) = (L.length : Int) - 1 := wrap64 (by omega) (by omega)
  simp (config := { maxSteps := 1000000 }) +decide only [NoH, Old, OldL, nilQ, nilA, asgn, nz, RechL, ReY, isNew, stepO, XPost, postN, XOk, updN, updU, isEff, avalue, aeff, ASt.eval, ASt.put, ASt.set, ASt.new, Nat.reduceDiv, Nat.reduceAdd, Int.reduceToNat, absV, absC, scalar, alen, acap, conc, flats, live, blkOf, aload, rd, part?, afieldAddr, afield, aindexAddr, cellsOf, afill, places, abuild, optI, asliceV, asliceS, szOk, srcCells, aappend, acopy, aclear, astore, amakeSlice, abuildSlice, snapL, mapO, treeL, AVal.tree, AVal.flatT, isFlat, ares, isFz, afroz, afrozB, lookupA, lookupH, tops, if_true, if_false, reduceCtorEq, forall_const, ite_true, ite_false, implies_true, walkS, tabS, Try.results36, b2, eq_true c3, w1]
  refine callK (den_allWithin I 0 ((L.length : Int) - 1)) (by first | exact .inl rfl | exact .inr rfl) ?_
  by_cases c4 : ∀ x ∈ I, 0 ≤ x ∧ x ≤ (L.length : Int) - 1
  · have b3 : bp (AllIn I L.length) = true := by rw [bp_true]; exact c4
    simp (config := { maxSteps := 1000000 }) +decide only [NoH, Old, OldL, nilQ, nilA, asgn, nz, RechL, ReY, isNew, stepO, XPost, postN, XOk, updN, updU, isEff, avalue, aeff, ASt.eval, ASt.put, ASt.set, ASt.new, Nat.reduceDiv, Nat.reduceAdd, Int.reduceToNat, absV, absC, scalar, alen, acap, conc, flats, live, blkOf, aload, rd, part?, afieldAddr, afield, aindexAddr, cellsOf, afill, places, abuild, optI, asliceV, asliceS, szOk, srcCells, aappend, acopy, aclear, astore, amakeSlice, abuildSlice, snapL, mapO, treeL, AVal.tree, AVal.flatT, isFlat, ares, isFz, afroz, afrozB, lookupA, lookupH, tops, if_true, if_false, reduceCtorEq, forall_const, ite_true, ite_false, implies_true, walkS, tabS, Try.results36, b3, eq_true c4]
    try rfl
  · have b3 : bp (AllIn I L.length) = false := by rw [bp_false]; exact c4
    simp (config := { maxSteps := 1000000 }) +decide only [NoH, Old, OldL, nilQ, nilA, asgn, nz, RechL, ReY, isNew, stepO, XPost, postN, XOk, updN, updU, isEff, avalue, aeff, ASt.eval, ASt.put, ASt.set, ASt.new, Nat.reduceDiv, Nat.reduceAdd, Int.reduceToNat, absV, absC, scalar, alen, acap, conc, flats, live, blkOf, aload, rd, part?, afieldAddr, afield, aindexAddr, cellsOf, afill, places, abuild, optI, asliceV, asliceS, szOk, srcCells, aappend, acopy, aclear, astore, amakeSlice, abuildSlice, snapL, mapO, treeL, AVal.tree, AVal.flatT, isFlat, ares, isFz, afroz, afrozB, lookupA, lookupH, tops, if_true, if_false, reduceCtorEq, forall_const, ite_true, ite_false, implies_true, walkS, tabS, Try.results36, b3, eq_false c4]
    try rfl
def ChGo (L : List Int) (it c : Int) : Prop := (0 ≤ c ∧ c ≤ 999) ∧ ¬ c = L.getD it.toNat 0
noncomputable def chC (D A : List (List Int)) (L : List Int) (it c : Int) : Int :=
  if stC D A L [it] = 0 then (if bp (ChGo L it c) = true then 0 else 2) else stC D A L [it]
theorem chC_zero {D A : List (List Int)} {L : List Int} {it c : Int} : chC D A L it c = 0 ↔ PrD D A ∧ StOk D L ∧ (0 ≤ it ∧ it < L.length) ∧ ChGo L it c := by
  have hz := stC_zero (D := D) (A := A) (L := L) (I := [it])
  unfold chC
  split
  · rename_i h
    obtain ⟨a, b, e⟩ := hz.1 h
    have e' := e it (by simp)
    split
    · rename_i h2
      rw [bp_true] at h2
      exact ⟨fun _ => ⟨a, b, by omega, h2⟩, fun _ => rfl⟩
    · rename_i h2
      rw [bp_true] at h2
      exact ⟨fun h => by simp at h, fun h => absurd h.2.2.2 h2⟩
  · rename_i h
    refine ⟨fun h' => absurd h' h, fun h' => absurd (hz.2 ⟨h'.1, h'.2.1, fun x hx => ?_⟩) h⟩
    simp only [List.mem_singleton] at hx
    subst hx
    have := h'.2.2.1
    omega
theorem den_chainCode (D A : List (List Int)) (L : List Int) (it c : Int) (hA : A.length ≤ 1000000) : Den Try.prog 30 [proV D A, ints L, .i it, .i c] (.i (chC D A L it c)) := by
  have hz := stC_zero (D := D) (A := A) (L := L) (I := [it])
  have e1 : ints [it] = .lst [.i it] 1 := rfl
  have ds := den_stateCode D A L [it] hA
  rw [e1] at ds
  unfold chC
  refine den_of_awpG (ghs [] [4, 13]) Try.func30 rfl (by kernel_rfl) (Nat.le_of_ble_eq_true rfl) (by simp only [treeL, AVal.tree, treeL_i, treeL_ints, treeL_u8, treeL_append, Bool.and_self, Bool.and_true, Bool.true_and]) (by first | rfl | simp only [treeL, AVal.tree, treeL_i, treeL_ints, treeL_u8, treeL_append, Bool.and_self, Bool.and_true, Bool.true_and]) mixed (by kernel_rfl) fun hl => ?_
  simp only [lensL, lens, lensL_i, lensL_mapC, maxI, and_true, true_and] at hl
  rw [Try.ntmps30]
  refine ex_start ?_
  simp (config := { maxSteps := 1000000 }) +decide only [NoH, Old, OldL, nilQ, nilA, asgn, nz, RechL, ReY, isNew, stepO, XPost, postN, XOk, updN, updU, isEff, avalue, aeff, ASt.eval, ASt.put, ASt.set, ASt.new, Nat.reduceDiv, Nat.reduceAdd, Int.reduceToNat, absV, absC, scalar, alen, acap, conc, flats, live, blkOf, aload, rd, part?, afieldAddr, afield, aindexAddr, cellsOf, afill, places, abuild, optI, asliceV, asliceS, szOk, srcCells, aappend, acopy, aclear, astore, amakeSlice, abuildSlice, snapL, mapO, treeL, AVal.tree, AVal.flatT, isFlat, ares, isFz, afroz, afrozB, lookupA, lookupH, tops, if_true, if_false, reduceCtorEq, forall_const, ite_true, ite_false, implies_true, walkS, tabS, Try.results30]
  refine callK (ds) (by first | exact .inl rfl | exact .inr rfl) ?_
  by_cases c0 : stC D A L [it] = 0
  case neg =>
    have c0I : ¬ stC D A L [it] = 0 := c0
    generalize stC D A L [it] = X at *
    simp (config := { maxSteps := 1000000 }) +decide only [NoH, Old, OldL, nilQ, nilA, asgn, nz, RechL, ReY, isNew, stepO, XPost, postN, XOk, updN, updU, isEff, avalue, aeff, ASt.eval, ASt.put, ASt.set, ASt.new, Nat.reduceDiv, Nat.reduceAdd, Int.reduceToNat, absV, absC, scalar, alen, acap, conc, flats, live, blkOf, aload, rd, part?, afieldAddr, afield, aindexAddr, cellsOf, afill, places, abuild, optI, asliceV, asliceS, szOk, srcCells, aappend, acopy, aclear, astore, amakeSlice, abuildSlice, snapL, mapO, treeL, AVal.tree, AVal.flatT, isFlat, ares, isFz, afroz, afrozB, lookupA, lookupH, tops, if_true, if_false, reduceCtorEq, forall_const, ite_true, ite_false, implies_true, walkS, tabS, Try.results30, eq_false c0]
  rw [c0]
  obtain ⟨hP, hS, hI⟩ := hz.1 c0
  have hI' := hI it (by simp)
  obtain ⟨j, rfl⟩ : ∃ j : Nat, it = j := ⟨it.toNat, by omega⟩
  have jl : j < L.length := by omega
  have jlI : (j : Int) < (L.length : Int) := by omega
  have eg : L.getD (j : Int).toNat 0 = L[j] := by rw [Int.toNat_natCast, List.getD_eq_getElem?_getD, List.getElem?_eq_getElem jl, Option.getD_some]
  simp (config := { maxSteps := 1000000 }) +decide only [NoH, Old, OldL, nilQ, nilA, asgn, nz, RechL, ReY, isNew, stepO, XPost, postN, XOk, updN, updU, isEff, avalue, aeff, ASt.eval, ASt.put, ASt.set, ASt.new, Nat.reduceDiv, Nat.reduceAdd, Int.reduceToNat, absV, absC, scalar, alen, acap, conc, flats, live, blkOf, aload, rd, part?, afieldAddr, afield, aindexAddr, cellsOf, afill, places, abuild, optI, asliceV, asliceS, szOk, srcCells, aappend, acopy, aclear, astore, amakeSlice, abuildSlice, snapL, mapO, treeL, AVal.tree, AVal.flatT, isFlat, ares, isFz, afroz, afrozB, lookupA, lookupH, tops, if_true, if_false, reduceCtorEq, forall_const, ite_true, ite_false, implies_true, walkS, tabS, Try.results30]
  refine callK (den_within c 0 999) (by first | exact .inl rfl | exact .inr rfl) ?_
  by_cases c1 : 0 ≤ c ∧ c ≤ 999
  case neg =>
    have b1 : bp (ChGo L j c) = false := by rw [bp_false]; exact fun h => c1 h.1
    simp (config := { maxSteps := 1000000 }) +decide only [NoH, Old, OldL, nilQ, nilA, asgn, nz, RechL, ReY, isNew, stepO, XPost, postN, XOk, updN, updU, isEff, avalue, aeff, ASt.eval, ASt.put, ASt.set, ASt.new, Nat.reduceDiv, Nat.reduceAdd, Int.reduceToNat, absV, absC, scalar, alen, acap, conc, flats, live, blkOf, aload, rd, part?, afieldAddr, afield, aindexAddr, cellsOf, afill, places, abuild, optI, asliceV, asliceS, szOk, srcCells, aappend, acopy, aclear, astore, amakeSlice, abuildSlice, snapL, mapO, treeL, AVal.tree, AVal.flatT, isFlat, ares, isFz, afroz, afrozB, lookupA, lookupH, tops, if_true, if_false, reduceCtorEq, forall_const, ite_true, ite_false, implies_true, walkS, tabS, Try.results30, b1, eq_false c1]
    try rfl
  by_cases c2 : c = L[j]
  · have b1 : bp (ChGo L j c) = false := by rw [bp_false]; exact fun h => h.2 (by rw [eg]; exact c2)
    simp (config := { maxSteps := 1000000 }) +decide only [NoH, Old, OldL, nilQ, nilA, asgn, nz, RechL, ReY, isNew, stepO, XPost, postN, XOk, updN, updU, isEff, avalue, aeff, ASt.eval, ASt.put, ASt.set, ASt.new, Nat.reduceDiv, Nat.reduceAdd, Int.reduceToNat, absV, absC, scalar, alen, acap, conc, flats, live, blkOf, aload, rd, part?, afieldAddr, afield, aindexAddr, cellsOf, afill, places, abuild, optI, asliceV, asliceS, szOk, srcCells, aappend, acopy, aclear, astore, amakeSlice, abuildSlice, snapL, mapO, treeL, AVal.tree, AVal.flatT, isFlat, ares, isFz, afroz, afrozB, lookupA, lookupH, tops, if_true, if_false, reduceCtorEq, forall_const, ite_true, ite_false, implies_true, walkS, tabS, Try.results30, b1, eq_true c1, jl, jlI, eq_true c2]
    try rfl
  · have b1 : bp (ChGo L j c) = true := by rw [bp_true]; exact ⟨c1, fun h => c2 (by rw [eg] at h; exact h)⟩
    simp (config := { maxSteps := 1000000 }) +decide only [NoH, Old, OldL, nilQ, nilA, asgn, nz, RechL, ReY, isNew, stepO, XPost, postN, XOk, updN, updU, isEff, avalue, aeff, ASt.eval, ASt.put, ASt.set, ASt.new, Nat.reduceDiv, Nat.reduceAdd, Int.reduceToNat, absV, absC, scalar, alen, acap, conc, flats, live, blkOf, aload, rd, part?, afieldAddr, afield, aindexAddr, cellsOf, afill, places, abuild, optI, asliceV, asliceS, szOk, srcCells, aappend, acopy, aclear, astore, amakeSlice, abuildSlice, snapL, mapO, treeL, AVal.tree, AVal.flatT, isFlat, ares, isFz, afroz, afrozB, lookupA, lookupH, tops, if_true, if_false, reduceCtorEq, forall_const, ite_true, ite_false, implies_true, walkS, tabS, Try.results30, b1, eq_true c1, jl, jlI, eq_false c2]
    try rfl
/-- conflicts with the first k -/
noncomputable def cfK (A : List (List Int)) (L : List Int) (it : Nat) (c : Int) : Nat → Int
  | 0 => 0
  | k + 1 => if bp (k ≠ it ∧ Near c (L.getD k 0) (ap A it k)) = true then cfK A L it c k + 1 else cfK A L it c k
theorem cfK_in (A : List (List Int)) (L : List Int) (it : Nat) (c : Int) : ∀ k, 0 ≤ cfK A L it c k ∧ cfK A L it c k ≤ k
  | 0 => ⟨Int.le_refl _, Int.le_refl _⟩
  | k + 1 => by
    have := cfK_in A L it c k
    unfold cfK
    split <;> omega
theorem cfK_zero {A : List (List Int)} {L : List Int} {it : Nat} {c : Int} : ∀ k, cfK A L it c k = 0 ↔ ∀ j : Nat, j < k → j ≠ it → ¬ Near c (L.getD j 0) (ap A it j)
  | 0 => ⟨fun _ j hj => by omega, fun _ => rfl⟩
  | k + 1 => by
    have ih := cfK_zero (A := A) (L := L) (it := it) (c := c) k
    have hin := cfK_in A L it c k
    unfold cfK
    split
    · rename_i h
      rw [bp_true] at h
      exact ⟨fun h' => by omega, fun h' => absurd h.2 (h' k (by omega) h.1)⟩
    · rename_i h
      rw [bp_true] at h
      rw [ih]
      refine ⟨fun h' j hj hne => ?_, fun h' j hj hne => h' j (by omega) hne⟩
      by_cases e : j = k
      · subst e
        exact fun hn => h ⟨hne, hn⟩
      · exact h' j (by omega) hne
theorem den_conflicts {D A : List (List Int)} (h : PrD D A) (L : List Int) (hS : StOk D L) (it : Nat) (hi : it < D.length) (c : Int) (hc : 0 ≤ c ∧ c ≤ 999) : Den Try.prog 38 [proV D A, ints L, .i it, .i c] (.i (cfK A L it c L.length)) := by
  have hn := h.few
  have hlA := h.len
  have hL := hS.1
  have hiA : it < A.length := by omega
  have hr := h.rl hiA
  refine den_of_awpG (ghs [] [4]) Try.func38 rfl (by kernel_rfl) (Nat.le_of_ble_eq_true rfl) (by simp only [treeL, AVal.tree, treeL_i, treeL_ints, treeL_u8, treeL_append, Bool.and_self, Bool.and_true, Bool.true_and]) (by first | rfl | simp only [treeL, AVal.tree, treeL_i, treeL_ints, treeL_u8, treeL_append, Bool.and_self, Bool.and_true, Bool.true_and]) mixed (by kernel_rfl) fun hl => ?_
  simp only [lensL, lens, lensL_i, lensL_mapC, maxI, and_true, true_and] at hl
  rw [Try.ntmps38]
  refine ex_start ?_
  simp (config := { maxSteps := 1000000 }) +decide only [NoH, Old, OldL, nilQ, nilA, asgn, nz, RechL, ReY, isNew, stepO, XPost, postN, XOk, updN, updU, isEff, avalue, aeff, ASt.eval, ASt.put, ASt.set, ASt.new, Nat.reduceDiv, Nat.reduceAdd, Int.reduceToNat, absV, absC, scalar, alen, acap, conc, flats, live, blkOf, aload, rd, part?, afieldAddr, afield, aindexAddr, cellsOf, afill, places, abuild, optI, asliceV, asliceS, szOk, srcCells, aappend, acopy, aclear, astore, amakeSlice, abuildSlice, snapL, mapO, treeL, AVal.tree, AVal.flatT, isFlat, ares, isFz, afroz, afrozB, lookupA, lookupH, tops, if_true, if_false, reduceCtorEq, forall_const, ite_true, ite_false, implies_true, walkS, tabS, Try.results38]
  refine ex_loop (fun k : {k : Nat // k ≤ L.length} => mkG (ghs [] [4]) [(2, .i it), (3, .i c), (4, proP D A), (9, .i (cfK A L it c k.1)), (12, ints L), (13, .i L.length), (14, .i k.1)] [] 0 41) (fun k => L.length - k.1) ⟨0, Nat.zero_le _⟩ ?_ ?_
  · refine weak_mk rfl (by first | exact Nat.le_refl _ | (simp only [mk_gen]; omega)) ?_ ?_ <;> simp +decide only [w_lookup_nil, w_lookup_cons, ch_ch, ch_lit, lit_ch, wkT, wkH, wkB, WVL, WV_refl', Int.natCast_zero, Int.natCast_add, Int.natCast_one, Nat.sub_self, Nat.sub_zero, List.replicate_zero, List.take_zero, List.nil_append, List.append_nil, fillC_zero, Nat.reduceDiv, Nat.reduceAdd, upd_bk, bk_at, getB_zero, getB_succ, modB_zero, modB_succ, rows_lit, repB_zero, repB_succ, List.length_cons, List.length_nil, upd_upd_same, upd_apply, mk_tmp, mk_heap, mk_gen, lookupA, lookupH, List.getD_cons_zero, List.getD_cons_succ, init_two, tops, Bool.true_and, and_self, and_true, true_and, true_or, if_true, if_false, ite_true, ite_false, reduceCtorEq, reduceIte, cfK]
  rintro ⟨k, hk⟩
  have hk' : k ≤ L.length := hk
  by_cases hlt : k < L.length
  case neg =>
    have e : k = L.length := by omega
    subst e
    have hltI : ¬ (L.length : Int) < (L.length : Int) := by omega
    simp (config := { maxSteps := 1000000 }) +decide only [NoH, Old, OldL, nilQ, nilA, asgn, nz, RechL, ReY, isNew, stepO, XPost, postN, XOk, updN, updU, isEff, avalue, aeff, ASt.eval, ASt.put, ASt.set, ASt.new, Nat.reduceDiv, Nat.reduceAdd, Int.reduceToNat, absV, absC, scalar, alen, acap, conc, flats, live, blkOf, aload, rd, part?, afieldAddr, afield, aindexAddr, cellsOf, afill, places, abuild, optI, asliceV, asliceS, szOk, srcCells, aappend, acopy, aclear, astore, amakeSlice, abuildSlice, snapL, mapO, treeL, AVal.tree, AVal.flatT, isFlat, ares, isFz, afroz, afrozB, lookupA, lookupH, tops, if_true, if_false, reduceCtorEq, forall_const, ite_true, ite_false, implies_true, walkS, tabS, Try.results38, eq_false hltI]
  have hltI : (k : Int) < (L.length : Int) := by omega
  have hw : IntKind.i64.wrap ((k : Int) + 1) = ((k + 1 : Nat) : Int) := wrap64 (by omega) (by omega)
  have hin := cfK_in A L it c k
  have hw2 : IntKind.i64.wrap (cfK A L it c k + 1) = cfK A L it c k + 1 := wrap64 (by omega) (by omega)
  have hx := hS.2 _ (List.getElem_mem hlt)
  have hkr : k < A[it].length := by omega
  have eg : L.getD k 0 = L[k] := by rw [List.getD_eq_getElem?_getD, List.getElem?_eq_getElem hlt, Option.getD_some]
  have eap : ap A (it : Int) (k : Int) = A[it][k] := by
    unfold ap
    rw [Int.toNat_natCast, Int.toNat_natCast]
    exact gdd hiA hkr
  by_cases h1 : k = it
  · have es : cfK A L it c (k + 1) = cfK A L it c k := by
      show (if _ then _ else _) = _
      rw [if_neg (by rw [bp_true]; exact fun h => h.1 h1)]
    subst h1
    simp (config := { maxSteps := 1000000 }) +decide only [NoH, Old, OldL, nilQ, nilA, asgn, nz, RechL, ReY, isNew, stepO, XPost, postN, XOk, updN, updU, isEff, avalue, aeff, ASt.eval, ASt.put, ASt.set, ASt.new, Nat.reduceDiv, Nat.reduceAdd, Int.reduceToNat, absV, absC, scalar, alen, acap, conc, flats, live, blkOf, aload, rd, part?, afieldAddr, afield, aindexAddr, cellsOf, afill, places, abuild, optI, asliceV, asliceS, szOk, srcCells, aappend, acopy, aclear, astore, amakeSlice, abuildSlice, snapL, mapO, treeL, AVal.tree, AVal.flatT, isFlat, ares, isFz, afroz, afrozB, lookupA, lookupH, tops, if_true, if_false, reduceCtorEq, forall_const, ite_true, ite_false, implies_true, walkS, tabS, Try.results38, eq_true hltI, hlt, hw]
    refine ⟨⟨k + 1, hlt⟩, ?_, by show L.length - (k + 1) < L.length - k; omega⟩
    refine weak_mk rfl (by first | exact Nat.le_refl _ | (simp only [mk_gen]; omega)) ?_ ?_ <;> simp +decide only [w_lookup_nil, w_lookup_cons, ch_ch, ch_lit, lit_ch, wkT, wkH, wkB, WVL, WV_refl', Int.natCast_zero, Int.natCast_add, Int.natCast_one, Nat.sub_self, Nat.sub_zero, List.replicate_zero, List.take_zero, List.nil_append, List.append_nil, fillC_zero, Nat.reduceDiv, Nat.reduceAdd, upd_bk, bk_at, getB_zero, getB_succ, modB_zero, modB_succ, rows_lit, repB_zero, repB_succ, List.length_cons, List.length_nil, upd_upd_same, upd_apply, mk_tmp, mk_heap, mk_gen, lookupA, lookupH, List.getD_cons_zero, List.getD_cons_succ, init_two, tops, Bool.true_and, and_self, and_true, true_and, true_or, if_true, if_false, ite_true, ite_false, reduceCtorEq, reduceIte, es]
  have h1I : ¬ (k : Int) = (it : Int) := by omega
  have ws : IntKind.i64.wrap (c - L[k]) = c - L[k] := wrap64 (by omega) (by omega)
  simp (config := { maxSteps := 1000000 }) +decide only [NoH, Old, OldL, nilQ, nilA, asgn, nz, RechL, ReY, isNew, stepO, XPost, postN, XOk, updN, updU, isEff, avalue, aeff, ASt.eval, ASt.put, ASt.set, ASt.new, Nat.reduceDiv, Nat.reduceAdd, Int.reduceToNat, absV, absC, scalar, alen, acap, conc, flats, live, blkOf, aload, rd, part?, afieldAddr, afield, aindexAddr, cellsOf, afill, places, abuild, optI, asliceV, asliceS, szOk, srcCells, aappend, acopy, aclear, astore, amakeSlice, abuildSlice, snapL, mapO, treeL, AVal.tree, AVal.flatT, isFlat, ares, isFz, afroz, afrozB, lookupA, lookupH, tops, if_true, if_false, reduceCtorEq, forall_const, ite_true, ite_false, implies_true, walkS, tabS, Try.results38, eq_true hltI, hlt, eq_false h1, eq_false h1I, ws]
  refine callK (den_absP (c - L[k]) (by omega)) (by first | exact .inl rfl | exact .inr rfl) ?_
  by_cases h3 : max (c - L[k]) (-(c - L[k])) < A[it][k]
  · have hN : Near c (L.getD k 0) (ap A it k) := by rw [eap, eg]; unfold Near; omega
    have es : cfK A L it c (k + 1) = cfK A L it c k + 1 := by
      show (if _ then _ else _) = _
      rw [if_pos (by rw [bp_true]; exact ⟨h1, hN⟩)]
    simp (config := { maxSteps := 1000000 }) +decide only [NoH, Old, OldL, nilQ, nilA, asgn, nz, RechL, ReY, isNew, stepO, XPost, postN, XOk, updN, updU, isEff, avalue, aeff, ASt.eval, ASt.put, ASt.set, ASt.new, Nat.reduceDiv, Nat.reduceAdd, Int.reduceToNat, absV, absC, scalar, alen, acap, conc, flats, live, blkOf, aload, rd, part?, afieldAddr, afield, aindexAddr, cellsOf, afill, places, abuild, optI, asliceV, asliceS, szOk, srcCells, aappend, acopy, aclear, astore, amakeSlice, abuildSlice, snapL, mapO, treeL, AVal.tree, AVal.flatT, isFlat, ares, isFz, afroz, afrozB, lookupA, lookupH, tops, if_true, if_false, reduceCtorEq, forall_const, ite_true, ite_false, implies_true, walkS, tabS, Try.results38, hiA, hkr, eq_true h3, hw, hw2, eq_false h1I]
    refine ⟨⟨k + 1, hlt⟩, ?_, by show L.length - (k + 1) < L.length - k; omega⟩
    refine weak_mk rfl (by first | exact Nat.le_refl _ | (simp only [mk_gen]; omega)) ?_ ?_ <;> simp +decide only [w_lookup_nil, w_lookup_cons, ch_ch, ch_lit, lit_ch, wkT, wkH, wkB, WVL, WV_refl', Int.natCast_zero, Int.natCast_add, Int.natCast_one, Nat.sub_self, Nat.sub_zero, List.replicate_zero, List.take_zero, List.nil_append, List.append_nil, fillC_zero, Nat.reduceDiv, Nat.reduceAdd, upd_bk, bk_at, getB_zero, getB_succ, modB_zero, modB_succ, rows_lit, repB_zero, repB_succ, List.length_cons, List.length_nil, upd_upd_same, upd_apply, mk_tmp, mk_heap, mk_gen, lookupA, lookupH, List.getD_cons_zero, List.getD_cons_succ, init_two, tops, Bool.true_and, and_self, and_true, true_and, true_or, if_true, if_false, ite_true, ite_false, reduceCtorEq, reduceIte, es]
  · have hN : ¬ Near c (L.getD k 0) (ap A it k) := by rw [eap, eg]; unfold Near; omega
    have es : cfK A L it c (k + 1) = cfK A L it c k := by
      show (if _ then _ else _) = _
      rw [if_neg (by rw [bp_true]; exact fun h => hN h.2)]
    simp (config := { maxSteps := 1000000 }) +decide only [NoH, Old, OldL, nilQ, nilA, asgn, nz, RechL, ReY, isNew, stepO, XPost, postN, XOk, updN, updU, isEff, avalue, aeff, ASt.eval, ASt.put, ASt.set, ASt.new, Nat.reduceDiv, Nat.reduceAdd, Int.reduceToNat, absV, absC, scalar, alen, acap, conc, flats, live, blkOf, aload, rd, part?, afieldAddr, afield, aindexAddr, cellsOf, afill, places, abuild, optI, asliceV, asliceS, szOk, srcCells, aappend, acopy, aclear, astore, amakeSlice, abuildSlice, snapL, mapO, treeL, AVal.tree, AVal.flatT, isFlat, ares, isFz, afroz, afrozB, lookupA, lookupH, tops, if_true, if_false, reduceCtorEq, forall_const, ite_true, ite_false, implies_true, walkS, tabS, Try.results38, hiA, hkr, eq_false h3, hw, eq_false h1I]
    refine ⟨⟨k + 1, hlt⟩, ?_, by show L.length - (k + 1) < L.length - k; omega⟩
    refine weak_mk rfl (by first | exact Nat.le_refl _ | (simp only [mk_gen]; omega)) ?_ ?_ <;> simp +decide only [w_lookup_nil, w_lookup_cons, ch_ch, ch_lit, lit_ch, wkT, wkH, wkB, WVL, WV_refl', Int.natCast_zero, Int.natCast_add, Int.natCast_one, Nat.sub_self, Nat.sub_zero, List.replicate_zero, List.take_zero, List.nil_append, List.append_nil, fillC_zero, Nat.reduceDiv, Nat.reduceAdd, upd_bk, bk_at, getB_zero, getB_succ, modB_zero, modB_succ, rows_lit, repB_zero, repB_succ, List.length_cons, List.length_nil, upd_upd_same, upd_apply, mk_tmp, mk_heap, mk_gen, lookupA, lookupH, List.getD_cons_zero, List.getD_cons_succ, init_two, tops, Bool.true_and, and_self, and_true, true_and, true_or, if_true, if_false, ite_true, ite_false, reduceCtorEq, reduceIte, es]
noncomputable def badV (D A : List (List Int)) (L : List Int) (it : Nat) : Int := cfK A L it (L.getD it 0) L.length + (if bp (L.getD it 0 ∈ D.getD it []) = true then 0 else 24)
theorem badV_in (D A : List (List Int)) (L : List Int) (it : Nat) : 0 ≤ badV D A L it ∧ badV D A L it ≤ L.length + 24 := by
  have := cfK_in A L it (L.getD it 0) L.length
  unfold badV
  split <;> omega
theorem badV_zero {D A : List (List Int)} {L : List Int} {it : Nat} : badV D A L it = 0 ↔ cfK A L it (L.getD it 0) L.length = 0 ∧ L.getD it 0 ∈ D.getD it [] := by
  have := cfK_in A L it (L.getD it 0) L.length
  unfold badV
  split
  · rename_i h
    rw [bp_true] at h
    exact ⟨fun h' => ⟨by omega, h⟩, fun h' => by omega⟩
  · rename_i h
    rw [bp_true] at h
    exact ⟨fun h' => by omega, fun h' => absurd h'.2 h⟩
theorem den_badness {D A : List (List Int)} (h : PrD D A) (L : List Int) (hS : StOk D L) (it : Nat) (hi : it < D.length) : Den Try.prog 40 [proV D A, ints L, .i it] (.i (badV D A L it)) := by
  have hn := h.few
  have hL := hS.1
  have hlt : it < L.length := by omega
  have hlI : (it : Int) < (L.length : Int) := by omega
  have hiI : (it : Int) < (D.length : Int) := by omega
  have hx := hS.2 _ (List.getElem_mem hlt)
  have eg : L.getD it 0 = L[it] := by rw [List.getD_eq_getElem?_getD, List.getElem?_eq_getElem hlt, Option.getD_some]
  have eD : D.getD it [] = D[it] := by rw [List.getD_eq_getElem?_getD, List.getElem?_eq_getElem hi, Option.getD_some]
  have hin := cfK_in A L it L[it] L.length
  have w24 : IntKind.i64.wrap (cfK A L it L[it] L.length + 24) = cfK A L it L[it] L.length + 24 := wrap64 (by omega) (by omega)
  have dc := den_conflicts h L hS it hi L[it] hx
  unfold badV
  rw [eg, eD]
  generalize cfK A L it L[it] L.length = X at *
  refine den_of_awpG (ghs [] [3]) Try.func40 rfl (by kernel_rfl) (Nat.le_of_ble_eq_true rfl) (by simp only [treeL, AVal.tree, treeL_i, treeL_ints, treeL_u8, treeL_append, Bool.and_self, Bool.and_true, Bool.true_and]) (by first | rfl | simp only [treeL, AVal.tree, treeL_i, treeL_ints, treeL_u8, treeL_append, Bool.and_self, Bool.and_true, Bool.true_and]) mixed (by kernel_rfl) fun hl => ?_
  simp only [lensL, lens, lensL_i, lensL_mapC, maxI, and_true, true_and] at hl
  rw [Try.ntmps40]
  refine ex_start ?_
  simp (config := { maxSteps := 1000000 }) +decide only [NoH, Old, OldL, nilQ, nilA, asgn, nz, RechL, ReY, isNew, stepO, XPost, postN, XOk, updN, updU, isEff, avalue, aeff, ASt.eval, ASt.put, ASt.set, ASt.new, Nat.reduceDiv, Nat.reduceAdd, Int.reduceToNat, absV, absC, scalar, alen, acap, conc, flats, live, blkOf, aload, rd, part?, afieldAddr, afield, aindexAddr, cellsOf, afill, places, abuild, optI, asliceV, asliceS, szOk, srcCells, aappend, acopy, aclear, astore, amakeSlice, abuildSlice, snapL, mapO, treeL, AVal.tree, AVal.flatT, isFlat, ares, isFz, afroz, afrozB, lookupA, lookupH, tops, if_true, if_false, reduceCtorEq, forall_const, ite_true, ite_false, implies_true, walkS, tabS, Try.results40, hlt, hlI]
  refine callK (dc) (by first | exact .inl rfl | exact .inr rfl) ?_
  simp (config := { maxSteps := 1000000 }) +decide only [NoH, Old, OldL, nilQ, nilA, asgn, nz, RechL, ReY, isNew, stepO, XPost, postN, XOk, updN, updU, isEff, avalue, aeff, ASt.eval, ASt.put, ASt.set, ASt.new, Nat.reduceDiv, Nat.reduceAdd, Int.reduceToNat, absV, absC, scalar, alen, acap, conc, flats, live, blkOf, aload, rd, part?, afieldAddr, afield, aindexAddr, cellsOf, afill, places, abuild, optI, asliceV, asliceS, szOk, srcCells, aappend, acopy, aclear, astore, amakeSlice, abuildSlice, snapL, mapO, treeL, AVal.tree, AVal.flatT, isFlat, ares, isFz, afroz, afrozB, lookupA, lookupH, tops, if_true, if_false, reduceCtorEq, forall_const, ite_true, ite_false, implies_true, walkS, tabS, Try.results40, hlt, hlI, hi, hiI]
  refine callK (den_Contains D[it] L[it]) (by first | exact .inl rfl | exact .inr rfl) ?_
  by_cases c : L[it] ∈ D[it]
  · have b1 : bp (L[it] ∈ D[it]) = true := by rw [bp_true]; exact c
    simp (config := { maxSteps := 1000000 }) +decide only [NoH, Old, OldL, nilQ, nilA, asgn, nz, RechL, ReY, isNew, stepO, XPost, postN, XOk, updN, updU, isEff, avalue, aeff, ASt.eval, ASt.put, ASt.set, ASt.new, Nat.reduceDiv, Nat.reduceAdd, Int.reduceToNat, absV, absC, scalar, alen, acap, conc, flats, live, blkOf, aload, rd, part?, afieldAddr, afield, aindexAddr, cellsOf, afill, places, abuild, optI, asliceV, asliceS, szOk, srcCells, aappend, acopy, aclear, astore, amakeSlice, abuildSlice, snapL, mapO, treeL, AVal.tree, AVal.flatT, isFlat, ares, isFz, afroz, afrozB, lookupA, lookupH, tops, if_true, if_false, reduceCtorEq, forall_const, ite_true, ite_false, implies_true, walkS, tabS, Try.results40, eq_true c, b1, Int.add_zero]
    try rfl
  · have b1 : bp (L[it] ∈ D[it]) = false := by rw [bp_false]; exact c
    simp (config := { maxSteps := 1000000 }) +decide only [NoH, Old, OldL, nilQ, nilA, asgn, nz, RechL, ReY, isNew, stepO, XPost, postN, XOk, updN, updU, isEff, avalue, aeff, ASt.eval, ASt.put, ASt.set, ASt.new, Nat.reduceDiv, Nat.reduceAdd, Int.reduceToNat, absV, absC, scalar, alen, acap, conc, flats, live, blkOf, aload, rd, part?, afieldAddr, afield, aindexAddr, cellsOf, afill, places, abuild, optI, asliceV, asliceS, szOk, srcCells, aappend, acopy, aclear, astore, amakeSlice, abuildSlice, snapL, mapO, treeL, AVal.tree, AVal.flatT, isFlat, ares, isFz, afroz, afrozB, lookupA, lookupH, tops, if_true, if_false, reduceCtorEq, forall_const, ite_true, ite_false, implies_true, walkS, tabS, Try.results40, eq_false c, b1, w24]
    try rfl
end Go.Proofs.Ytkmhoebopfgpdaa
