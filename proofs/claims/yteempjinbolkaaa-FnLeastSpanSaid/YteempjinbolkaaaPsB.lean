/-
  OWN WORK: the program's search for assignments: plain.
  OWN WORK: the program's choices of channels for an item.
-/
import Derived.Test.YteempjinbolkaaaPrL
namespace Go.Proofs.Yteempjinbolkaaa
open Go Go.Own Go.Proofs
set_option maxHeartbeats 4000000
set_option maxRecDepth 20000
set_option linter.unusedSimpArgs false
theorem den_absP (n : Int) (h : -1000000 ≤ n ∧ n ≤ 1000000) : Den Try.prog 118 [.i n] (.i (max n (-n))) := by
  refine den_of_awp Try.func118 rfl (by kernel_rfl) (Nat.le_of_ble_eq_true rfl) (by simp only [treeL, AVal.tree, treeL_i, treeL_ints, treeL_u8, treeL_append, Bool.and_self, Bool.and_true, Bool.true_and]) (by first | rfl | simp only [treeL, AVal.tree, treeL_i, treeL_ints, treeL_u8, treeL_append, Bool.and_self, Bool.and_true, Bool.true_and]) mixed (by kernel_rfl) fun hl => ?_
  simp only [lensL, lens, lensL_i, lensL_mapC, maxI, and_true, true_and] at hl
  rw [Try.ntmps118]
  refine ex_start ?_
  have w1 : IntKind.i64.wrap (0 - n) = -n := (wrap64 (by omega) (by omega)).trans (by omega)
  simp (config := { maxSteps := 1000000 }) +decide only [NoH, Old, OldL, nilQ, nilA, RechL, ReY, isNew, stepO, XPost, postN, XOk, updN, updU, isEff, avalue, aeff, ASt.eval, ASt.put, ASt.set, ASt.new, Nat.reduceDiv, Nat.reduceAdd, Int.reduceToNat, absV, absC, scalar, alen, acap, conc, flats, live, blkOf, aload, rd, part?, afieldAddr, afield, aindexAddr, cellsOf, afill, places, abuild, optI, asliceV, asliceS, szOk, srcCells, aappend, astore, amakeSlice, abuildSlice, snapL, mapO, treeL, AVal.tree, AVal.flatT, isFlat, ares, isFz, afroz, afrozB, lookupA, lookupH, tops, if_true, if_false, reduceCtorEq, forall_const, ite_true, ite_false, implies_true, walkS, tabS, Try.results118, w1, sem_mx]
/-- a clash with one of the first of the others -/
def Clash (A : List (List Int)) (L : List Int) (it k : Nat) (c : Int) : Prop := ∃ (j : Nat) (h : j < L.length), j < k ∧ j ≠ it ∧ 0 ≤ L[j] ∧ Near c L[j] (ap A it j)
theorem clash_free {A : List (List Int)} {L : List Int} {it : Nat} {c : Int} : Free A L it c ↔ ¬ Clash A L it L.length c := by
  constructor
  · rintro h ⟨j, hj, _, h1, h2, h3⟩
    exact h j hj h1 h2 h3
  · intro h j hj h1 h2 h3
    exact h ⟨j, hj, hj, h1, h2, h3⟩
theorem clash_zero {A : List (List Int)} {L : List Int} {it : Nat} {c : Int} : ¬ Clash A L it 0 c := fun ⟨_, _, h, _⟩ => absurd h (Nat.not_lt_zero _)
theorem clash_succ {A : List (List Int)} {L : List Int} {it k : Nat} {c : Int} (hk : k < L.length) : Clash A L it (k + 1) c ↔ Clash A L it k c ∨ (k ≠ it ∧ 0 ≤ L[k] ∧ Near c L[k] (ap A it k)) := by
  constructor
  · rintro ⟨j, hj, h0, h1, h2, h3⟩
    by_cases e : j = k
    · subst e; exact .inr ⟨h1, h2, h3⟩
    · exact .inl ⟨j, hj, by omega, h1, h2, h3⟩
  · rintro (⟨j, hj, h0, h1, h2, h3⟩ | ⟨h1, h2, h3⟩)
    · exact ⟨j, hj, by omega, h1, h2, h3⟩
    · exact ⟨k, hk, by omega, h1, h2, h3⟩
theorem denx_choices {D A : List (List Int)} (h : PrD D A) (L : List Int) (it : Nat) (hL : L.length ≤ D.length) (hi : it < D.length) (hs : Small L) : DenX Try.prog 80 [.v (proV D A), xints L, xi it] [.v (proV D A), xints L, xi it] (xints (chs D A L it D[it].length)) := by
  refine denx_of_awpG (ghs [] [3, 57]) Try.func80 rfl (by kernel_rfl) (Nat.le_of_ble_eq_true rfl) (by simp +decide only [w_embA_nil, w_embA_cons, w_emb_v, w_emb_ol, w_emb_op, w_emb_agg, w_emb_tup, w_embL_nil, w_embL_cons, embL_i, List.map_cons, List.map_nil, List.nil_append, List.append_nil, List.cons_append, List.nodup_cons, List.nodup_nil, List.mem_cons, List.mem_nil_iff, List.not_mem_nil, ch_ch, ch_lit, lit_ch, Nat.reduceAdd]) mixed (by kernel_rfl) fun hl => ?_
  simp only [xlensL, xlens, lensL, lens, lensL_i, lensL_mapC, xlensL_i, maxI, and_true, true_and] at hl
  rw [Try.ntmps80]
  refine ex_start ?_
  have hn6 := h.few
  have hlA := h.len
  have hiA : it < A.length := by omega
  have hr := h.rl hiA
  have hd := h.dom _ (List.getElem_mem hi)
  have hdl := hd.few
  have eD : D.getD it [] = D[it] := by rw [List.getD_eq_getElem?_getD, List.getElem?_eq_getElem hi, Option.getD_some]
  have tL : List.take L.length L = L := List.take_of_length_le (by omega)
  simp (config := { maxSteps := 1000000 }) +decide only [NoH, Old, OldL, nilQ, nilA, RechL, ReY, isNew, stepO, XPost, postN, XOk, updN, updU, isEff, avalue, aeff, ASt.eval, ASt.put, ASt.set, ASt.new, Nat.reduceDiv, Nat.reduceAdd, Int.reduceToNat, absV, absC, scalar, alen, acap, conc, flats, live, blkOf, aload, rd, part?, afieldAddr, afield, aindexAddr, cellsOf, afill, places, abuild, optI, asliceV, asliceS, szOk, srcCells, aappend, astore, amakeSlice, abuildSlice, snapL, mapO, treeL, AVal.tree, AVal.flatT, isFlat, ares, isFz, afroz, afrozB, lookupA, lookupH, tops, if_true, if_false, reduceCtorEq, forall_const, ite_true, ite_false, implies_true, walkS, tabS, Try.results80, hi]
  refine ex_loop (fun p : {p : Nat × Nat × Nat // p.1 ≤ D[it].length} => mkG (ghs [] [3, 57]) [(1, .own 1 0 0 L.length), (2, .i it), (3, proP D A), (7, .own 58 p.1.2.1 0 (chs D A L it p.1.1).length), (17, ints D[it]), (18, .i D[it].length), (19, .i p.1.1)] [(1, ⟨0, 1, mapC AVal.i L⟩), (58, ⟨p.1.2.1, 1, mapC AVal.i (chs D A L it p.1.1)⟩)] p.1.2.2 61) (fun p => D[it].length - p.1.1) ⟨(0, 1, 2), Nat.zero_le _⟩ ?_ ?_
  · have e0 : chs D A L it 0 = [] := by simp [chs]
    refine weak_mk rfl (by first | exact Nat.le_refl _ | (simp only [mk_gen]; omega)) ?_ ?_ <;> simp +decide only [w_lookup_nil, w_lookup_cons, ch_ch, ch_lit, lit_ch, wkT, wkH, wkB, WVL, WV_refl', Int.natCast_zero, Int.natCast_add, Int.natCast_one, Nat.sub_self, Nat.sub_zero, List.replicate_zero, List.take_zero, List.nil_append, List.append_nil, fillC_zero, Nat.reduceDiv, Nat.reduceAdd, upd_bk, bk_at, getB_zero, getB_succ, modB_zero, modB_succ, rows_lit, repB_zero, repB_succ, List.length_cons, List.length_nil, upd_upd_same, upd_apply, mk_tmp, mk_heap, mk_gen, lookupA, lookupH, List.getD_cons_zero, List.getD_cons_succ, init_two, tops, Bool.true_and, and_self, and_true, true_and, true_or, if_true, if_false, ite_true, ite_false, reduceCtorEq, reduceIte, e0, mapC_nil, List.length_nil]
    exact WV_nl rfl rfl rfl rfl
  rintro ⟨⟨k, g, G⟩, hk⟩
  have hk' : k ≤ D[it].length := hk
  by_cases hlt : k < D[it].length
  case neg =>
    have e : k = D[it].length := by omega
    subst e
    have t1 : List.take (chs D A L it D[it].length).length (chs D A L it D[it].length) = chs D A L it D[it].length := List.take_of_length_le (Nat.le_refl _)
    simp (config := { maxSteps := 1000000 }) +decide only [NoH, Old, OldL, nilQ, nilA, RechL, ReY, isNew, stepO, XPost, postN, XOk, updN, updU, isEff, avalue, aeff, ASt.eval, ASt.put, ASt.set, ASt.new, Nat.reduceDiv, Nat.reduceAdd, Int.reduceToNat, absV, absC, scalar, alen, acap, conc, flats, live, blkOf, aload, rd, part?, afieldAddr, afield, aindexAddr, cellsOf, afill, places, abuild, optI, asliceV, asliceS, szOk, srcCells, aappend, astore, amakeSlice, abuildSlice, snapL, mapO, treeL, AVal.tree, AVal.flatT, isFlat, ares, isFz, afroz, afrozB, lookupA, lookupH, tops, if_true, if_false, reduceCtorEq, forall_const, ite_true, ite_false, implies_true, walkS, tabS, Try.results80, hi, hlt, tL, t1]
  have hltI : (k : Int) < (D[it].length : Int) := by omega
  have hw : IntKind.i64.wrap ((k : Int) + 1) = ((k + 1 : Nat) : Int) := wrap64 (by omega) (by omega)
  have hc := (hd.up k hlt).1
  have hle := chs_le D A L it k
  rw [eD] at hle
  have h8 : ((chs D A L it k).length + 1) * 8 ≤ 140737488355328 := by omega
  have tc : List.take (chs D A L it k).length (chs D A L it k) = chs D A L it k := List.take_of_length_le (Nat.le_refl _)
  have es : chs D A L it (k + 1) = if bp (Free A L it D[it][k]) = true then chs D A L it k ++ [D[it][k]] else chs D A L it k := by
    unfold chs
    rw [eD, List.take_succ_eq_append_getElem hlt, List.filter_append]
    simp only [List.filter_cons, List.filter_nil]
    split
    · rfl
    · rw [List.append_nil]
  generalize hcc : D[it][k] = c at *
  simp (config := { maxSteps := 1000000 }) +decide only [NoH, Old, OldL, nilQ, nilA, RechL, ReY, isNew, stepO, XPost, postN, XOk, updN, updU, isEff, avalue, aeff, ASt.eval, ASt.put, ASt.set, ASt.new, Nat.reduceDiv, Nat.reduceAdd, Int.reduceToNat, absV, absC, scalar, alen, acap, conc, flats, live, blkOf, aload, rd, part?, afieldAddr, afield, aindexAddr, cellsOf, afill, places, abuild, optI, asliceV, asliceS, szOk, srcCells, aappend, astore, amakeSlice, abuildSlice, snapL, mapO, treeL, AVal.tree, AVal.flatT, isFlat, ares, isFz, afroz, afrozB, lookupA, lookupH, tops, if_true, if_false, reduceCtorEq, forall_const, ite_true, ite_false, implies_true, walkS, tabS, Try.results80, hi, hlt, hltI, hcc]
  refine ex_loop (fun p : {p : Nat × Bool // p.1 ≤ L.length ∧ (p.2 = true ↔ Clash A L it p.1 c)} => mkG (ghs [] [3, 57]) [(1, .own 1 0 0 L.length), (2, .i it), (3, proP D A), (7, .own 58 g 0 (chs D A L it k).length), (9, .i c), (10, .b p.1.2), (17, ints D[it]), (18, .i D[it].length), (19, .i k), (23, .own 1 0 0 L.length), (24, .i L.length), (25, .i p.1.1)] [(1, ⟨0, 1, mapC AVal.i L⟩), (58, ⟨g, 1, mapC AVal.i (chs D A L it k)⟩)] G 61) (fun p => L.length - p.1.1) ⟨(0, false), Nat.zero_le _, ⟨fun h => by simp at h, fun h => (clash_zero h).elim⟩⟩ ?_ ?_
  · refine weak_mk rfl (by first | exact Nat.le_refl _ | (simp only [mk_gen]; omega)) ?_ ?_ <;> simp +decide only [w_lookup_nil, w_lookup_cons, ch_ch, ch_lit, lit_ch, wkT, wkH, wkB, WVL, WV_refl', Int.natCast_zero, Int.natCast_add, Int.natCast_one, Nat.sub_self, Nat.sub_zero, List.replicate_zero, List.take_zero, List.nil_append, List.append_nil, fillC_zero, Nat.reduceDiv, Nat.reduceAdd, upd_bk, bk_at, getB_zero, getB_succ, modB_zero, modB_succ, rows_lit, repB_zero, repB_succ, List.length_cons, List.length_nil, upd_upd_same, upd_apply, mk_tmp, mk_heap, mk_gen, lookupA, lookupH, List.getD_cons_zero, List.getD_cons_succ, init_two, tops, Bool.true_and, and_self, and_true, true_and, true_or, if_true, if_false, ite_true, ite_false, reduceCtorEq, reduceIte]
  rintro ⟨⟨j, x⟩, hj, hx⟩
  have hj' : j ≤ L.length := hj
  have hx' : x = true ↔ Clash A L it j c := hx
  by_cases jlt : j < L.length
  case neg =>
    have e : j = L.length := by omega
    subst e
    have jI : ¬ (L.length : Int) < (L.length : Int) := by omega
    cases x
    case true =>
      have hf : ¬ Free A L it c := fun hf => (clash_free.1 hf) (hx'.1 rfl)
      have es' : chs D A L it (k + 1) = chs D A L it k := by rw [es, if_neg (by rw [bp_true]; exact hf)]
      simp (config := { maxSteps := 1000000 }) +decide only [NoH, Old, OldL, nilQ, nilA, RechL, ReY, isNew, stepO, XPost, postN, XOk, updN, updU, isEff, avalue, aeff, ASt.eval, ASt.put, ASt.set, ASt.new, Nat.reduceDiv, Nat.reduceAdd, Int.reduceToNat, absV, absC, scalar, alen, acap, conc, flats, live, blkOf, aload, rd, part?, afieldAddr, afield, aindexAddr, cellsOf, afill, places, abuild, optI, asliceV, asliceS, szOk, srcCells, aappend, astore, amakeSlice, abuildSlice, snapL, mapO, treeL, AVal.tree, AVal.flatT, isFlat, ares, isFz, afroz, afrozB, lookupA, lookupH, tops, if_true, if_false, reduceCtorEq, forall_const, ite_true, ite_false, implies_true, walkS, tabS, Try.results80, eq_false jI, hw]
      refine ⟨⟨(k + 1, g, G), hlt⟩, ?_, by show D[it].length - (k + 1) < D[it].length - k; omega⟩
      refine weak_mk rfl (by first | exact Nat.le_refl _ | (simp only [mk_gen]; omega)) ?_ ?_ <;> simp +decide only [w_lookup_nil, w_lookup_cons, ch_ch, ch_lit, lit_ch, wkT, wkH, wkB, WVL, WV_refl', Int.natCast_zero, Int.natCast_add, Int.natCast_one, Nat.sub_self, Nat.sub_zero, List.replicate_zero, List.take_zero, List.nil_append, List.append_nil, fillC_zero, Nat.reduceDiv, Nat.reduceAdd, upd_bk, bk_at, getB_zero, getB_succ, modB_zero, modB_succ, rows_lit, repB_zero, repB_succ, List.length_cons, List.length_nil, upd_upd_same, upd_apply, mk_tmp, mk_heap, mk_gen, lookupA, lookupH, List.getD_cons_zero, List.getD_cons_succ, init_two, tops, Bool.true_and, and_self, and_true, true_and, true_or, if_true, if_false, ite_true, ite_false, reduceCtorEq, reduceIte, es']
    case false =>
      have hf : Free A L it c := clash_free.2 fun hc => by have := hx'.2 hc; simp at this
      have es' : chs D A L it (k + 1) = chs D A L it k ++ [c] := by rw [es, if_pos (by rw [bp_true]; exact hf)]
      simp (config := { maxSteps := 1000000 }) +decide only [NoH, Old, OldL, nilQ, nilA, RechL, ReY, isNew, stepO, XPost, postN, XOk, updN, updU, isEff, avalue, aeff, ASt.eval, ASt.put, ASt.set, ASt.new, Nat.reduceDiv, Nat.reduceAdd, Int.reduceToNat, absV, absC, scalar, alen, acap, conc, flats, live, blkOf, aload, rd, part?, afieldAddr, afield, aindexAddr, cellsOf, afill, places, abuild, optI, asliceV, asliceS, szOk, srcCells, aappend, astore, amakeSlice, abuildSlice, snapL, mapO, treeL, AVal.tree, AVal.flatT, isFlat, ares, isFz, afroz, afrozB, lookupA, lookupH, tops, if_true, if_false, reduceCtorEq, forall_const, ite_true, ite_false, implies_true, walkS, tabS, Try.results80, eq_false jI, hw, h8, tc, List.replicate_succ, List.flatten_cons, List.flatten_nil, mapC_snoc]
      refine ⟨⟨(k + 1, G, G + 1), hlt⟩, ?_, by show D[it].length - (k + 1) < D[it].length - k; omega⟩
      refine weak_mk rfl (by first | exact Nat.le_refl _ | (simp only [mk_gen]; omega)) ?_ ?_ <;> simp +decide only [w_lookup_nil, w_lookup_cons, ch_ch, ch_lit, lit_ch, wkT, wkH, wkB, WVL, WV_refl', Int.natCast_zero, Int.natCast_add, Int.natCast_one, Nat.sub_self, Nat.sub_zero, List.replicate_zero, List.take_zero, List.nil_append, List.append_nil, fillC_zero, Nat.reduceDiv, Nat.reduceAdd, upd_bk, bk_at, getB_zero, getB_succ, modB_zero, modB_succ, rows_lit, repB_zero, repB_succ, List.length_cons, List.length_nil, upd_upd_same, upd_apply, mk_tmp, mk_heap, mk_gen, lookupA, lookupH, List.getD_cons_zero, List.getD_cons_succ, init_two, tops, Bool.true_and, and_self, and_true, true_and, true_or, if_true, if_false, ite_true, ite_false, reduceCtorEq, reduceIte, es', List.length_append, List.length_cons, List.length_nil, Nat.zero_add]
  have jI : (j : Int) < (L.length : Int) := by omega
  have wj : IntKind.i64.wrap ((j : Int) + 1) = ((j + 1 : Nat) : Int) := wrap64 (by omega) (by omega)
  have hsj := hs j jlt
  have hjr : j < A[it].length := by omega
  have eap : ap A (it : Int) (j : Int) = A[it][j] := by
    unfold ap
    rw [Int.toNat_natCast, Int.toNat_natCast]
    exact gdd hiA hjr
  have hsu := clash_succ (A := A) (it := it) (c := c) jlt
  by_cases h1 : j = it
  · have hy : x = true ↔ Clash A L it (j + 1) c := by rw [hx', hsu]; exact ⟨.inl, fun h => h.elim id fun h => absurd h1 h.1⟩
    subst h1
    simp (config := { maxSteps := 1000000 }) +decide only [NoH, Old, OldL, nilQ, nilA, RechL, ReY, isNew, stepO, XPost, postN, XOk, updN, updU, isEff, avalue, aeff, ASt.eval, ASt.put, ASt.set, ASt.new, Nat.reduceDiv, Nat.reduceAdd, Int.reduceToNat, absV, absC, scalar, alen, acap, conc, flats, live, blkOf, aload, rd, part?, afieldAddr, afield, aindexAddr, cellsOf, afill, places, abuild, optI, asliceV, asliceS, szOk, srcCells, aappend, astore, amakeSlice, abuildSlice, snapL, mapO, treeL, AVal.tree, AVal.flatT, isFlat, ares, isFz, afroz, afrozB, lookupA, lookupH, tops, if_true, if_false, reduceCtorEq, forall_const, ite_true, ite_false, implies_true, walkS, tabS, Try.results80, eq_true jI, jlt, wj]
    refine ⟨⟨(j + 1, x), jlt, hy⟩, ?_, by show L.length - (j + 1) < L.length - j; omega⟩
    refine weak_mk rfl (by first | exact Nat.le_refl _ | (simp only [mk_gen]; omega)) ?_ ?_ <;> simp +decide only [w_lookup_nil, w_lookup_cons, ch_ch, ch_lit, lit_ch, wkT, wkH, wkB, WVL, WV_refl', Int.natCast_zero, Int.natCast_add, Int.natCast_one, Nat.sub_self, Nat.sub_zero, List.replicate_zero, List.take_zero, List.nil_append, List.append_nil, fillC_zero, Nat.reduceDiv, Nat.reduceAdd, upd_bk, bk_at, getB_zero, getB_succ, modB_zero, modB_succ, rows_lit, repB_zero, repB_succ, List.length_cons, List.length_nil, upd_upd_same, upd_apply, mk_tmp, mk_heap, mk_gen, lookupA, lookupH, List.getD_cons_zero, List.getD_cons_succ, init_two, tops, Bool.true_and, and_self, and_true, true_and, true_or, if_true, if_false, ite_true, ite_false, reduceCtorEq, reduceIte]
  have h1I : ¬ (j : Int) = (it : Int) := by omega
  by_cases h2 : 0 ≤ L[j]
  case neg =>
    have hy : x = true ↔ Clash A L it (j + 1) c := by rw [hx', hsu]; exact ⟨.inl, fun h => h.elim id fun h => absurd h.2.1 h2⟩
    simp (config := { maxSteps := 1000000 }) +decide only [NoH, Old, OldL, nilQ, nilA, RechL, ReY, isNew, stepO, XPost, postN, XOk, updN, updU, isEff, avalue, aeff, ASt.eval, ASt.put, ASt.set, ASt.new, Nat.reduceDiv, Nat.reduceAdd, Int.reduceToNat, absV, absC, scalar, alen, acap, conc, flats, live, blkOf, aload, rd, part?, afieldAddr, afield, aindexAddr, cellsOf, afill, places, abuild, optI, asliceV, asliceS, szOk, srcCells, aappend, astore, amakeSlice, abuildSlice, snapL, mapO, treeL, AVal.tree, AVal.flatT, isFlat, ares, isFz, afroz, afrozB, lookupA, lookupH, tops, if_true, if_false, reduceCtorEq, forall_const, ite_true, ite_false, implies_true, walkS, tabS, Try.results80, eq_true jI, jlt, wj, eq_false h1, eq_false h1I, eq_false h2]
    refine ⟨⟨(j + 1, x), jlt, hy⟩, ?_, by show L.length - (j + 1) < L.length - j; omega⟩
    refine weak_mk rfl (by first | exact Nat.le_refl _ | (simp only [mk_gen]; omega)) ?_ ?_ <;> simp +decide only [w_lookup_nil, w_lookup_cons, ch_ch, ch_lit, lit_ch, wkT, wkH, wkB, WVL, WV_refl', Int.natCast_zero, Int.natCast_add, Int.natCast_one, Nat.sub_self, Nat.sub_zero, List.replicate_zero, List.take_zero, List.nil_append, List.append_nil, fillC_zero, Nat.reduceDiv, Nat.reduceAdd, upd_bk, bk_at, getB_zero, getB_succ, modB_zero, modB_succ, rows_lit, repB_zero, repB_succ, List.length_cons, List.length_nil, upd_upd_same, upd_apply, mk_tmp, mk_heap, mk_gen, lookupA, lookupH, List.getD_cons_zero, List.getD_cons_succ, init_two, tops, Bool.true_and, and_self, and_true, true_and, true_or, if_true, if_false, ite_true, ite_false, reduceCtorEq, reduceIte]
  have ws : IntKind.i64.wrap (c - L[j]) = c - L[j] := wrap64 (by omega) (by omega)
  simp (config := { maxSteps := 1000000 }) +decide only [NoH, Old, OldL, nilQ, nilA, RechL, ReY, isNew, stepO, XPost, postN, XOk, updN, updU, isEff, avalue, aeff, ASt.eval, ASt.put, ASt.set, ASt.new, Nat.reduceDiv, Nat.reduceAdd, Int.reduceToNat, absV, absC, scalar, alen, acap, conc, flats, live, blkOf, aload, rd, part?, afieldAddr, afield, aindexAddr, cellsOf, afill, places, abuild, optI, asliceV, asliceS, szOk, srcCells, aappend, astore, amakeSlice, abuildSlice, snapL, mapO, treeL, AVal.tree, AVal.flatT, isFlat, ares, isFz, afroz, afrozB, lookupA, lookupH, tops, if_true, if_false, reduceCtorEq, forall_const, ite_true, ite_false, implies_true, walkS, tabS, Try.results80, eq_true jI, jlt, wj, eq_false h1, eq_false h1I, eq_true h2, ws]
  refine callK (den_absP (c - L[j]) (by omega)) (by first | exact .inl rfl | exact .inr rfl) ?_
  by_cases h3 : max (c - L[j]) (-(c - L[j])) < A[it][j]
  · have hN : Near c L[j] (ap A it j) := by rw [eap]; unfold Near; omega
    have hy : (true = true) ↔ Clash A L it (j + 1) c := ⟨fun _ => hsu.2 (.inr ⟨h1, h2, hN⟩), fun _ => rfl⟩
    simp (config := { maxSteps := 1000000 }) +decide only [NoH, Old, OldL, nilQ, nilA, RechL, ReY, isNew, stepO, XPost, postN, XOk, updN, updU, isEff, avalue, aeff, ASt.eval, ASt.put, ASt.set, ASt.new, Nat.reduceDiv, Nat.reduceAdd, Int.reduceToNat, absV, absC, scalar, alen, acap, conc, flats, live, blkOf, aload, rd, part?, afieldAddr, afield, aindexAddr, cellsOf, afill, places, abuild, optI, asliceV, asliceS, szOk, srcCells, aappend, astore, amakeSlice, abuildSlice, snapL, mapO, treeL, AVal.tree, AVal.flatT, isFlat, ares, isFz, afroz, afrozB, lookupA, lookupH, tops, if_true, if_false, reduceCtorEq, forall_const, ite_true, ite_false, implies_true, walkS, tabS, Try.results80, hiA, hjr, eq_true h3, wj]
    refine ⟨⟨(j + 1, true), jlt, hy⟩, ?_, by show L.length - (j + 1) < L.length - j; omega⟩
    refine weak_mk rfl (by first | exact Nat.le_refl _ | (simp only [mk_gen]; omega)) ?_ ?_ <;> simp +decide only [w_lookup_nil, w_lookup_cons, ch_ch, ch_lit, lit_ch, wkT, wkH, wkB, WVL, WV_refl', Int.natCast_zero, Int.natCast_add, Int.natCast_one, Nat.sub_self, Nat.sub_zero, List.replicate_zero, List.take_zero, List.nil_append, List.append_nil, fillC_zero, Nat.reduceDiv, Nat.reduceAdd, upd_bk, bk_at, getB_zero, getB_succ, modB_zero, modB_succ, rows_lit, repB_zero, repB_succ, List.length_cons, List.length_nil, upd_upd_same, upd_apply, mk_tmp, mk_heap, mk_gen, lookupA, lookupH, List.getD_cons_zero, List.getD_cons_succ, init_two, tops, Bool.true_and, and_self, and_true, true_and, true_or, if_true, if_false, ite_true, ite_false, reduceCtorEq, reduceIte]
  · have hN : ¬ Near c L[j] (ap A it j) := by rw [eap]; unfold Near; omega
    have hy : x = true ↔ Clash A L it (j + 1) c := by rw [hx', hsu]; exact ⟨.inl, fun h => h.elim id fun h => absurd h.2.2 hN⟩
    simp (config := { maxSteps := 1000000 }) +decide only [NoH, Old, OldL, nilQ, nilA, RechL, ReY, isNew, stepO, XPost, postN, XOk, updN, updU, isEff, avalue, aeff, ASt.eval, ASt.put, ASt.set, ASt.new, Nat.reduceDiv, Nat.reduceAdd, Int.reduceToNat, absV, absC, scalar, alen, acap, conc, flats, live, blkOf, aload, rd, part?, afieldAddr, afield, aindexAddr, cellsOf, afill, places, abuild, optI, asliceV, asliceS, szOk, srcCells, aappend, astore, amakeSlice, abuildSlice, snapL, mapO, treeL, AVal.tree, AVal.flatT, isFlat, ares, isFz, afroz, afrozB, lookupA, lookupH, tops, if_true, if_false, reduceCtorEq, forall_const, ite_true, ite_false, implies_true, walkS, tabS, Try.results80, hiA, hjr, eq_false h3, wj]
    refine ⟨⟨(j + 1, x), jlt, hy⟩, ?_, by show L.length - (j + 1) < L.length - j; omega⟩
    refine weak_mk rfl (by first | exact Nat.le_refl _ | (simp only [mk_gen]; omega)) ?_ ?_ <;> simp +decide only [w_lookup_nil, w_lookup_cons, ch_ch, ch_lit, lit_ch, wkT, wkH, wkB, WVL, WV_refl', Int.natCast_zero, Int.natCast_add, Int.natCast_one, Nat.sub_self, Nat.sub_zero, List.replicate_zero, List.take_zero, List.nil_append, List.append_nil, fillC_zero, Nat.reduceDiv, Nat.reduceAdd, upd_bk, bk_at, getB_zero, getB_succ, modB_zero, modB_succ, rows_lit, repB_zero, repB_succ, List.length_cons, List.length_nil, upd_upd_same, upd_apply, mk_tmp, mk_heap, mk_gen, lookupA, lookupH, List.getD_cons_zero, List.getD_cons_succ, init_two, tops, Bool.true_and, and_self, and_true, true_and, true_or, if_true, if_false, ite_true, ite_false, reduceCtorEq, reduceIte]
/-- no two channels lie farther apart than that -/
def Sp (s : List Int) (w : Int) : Prop := ∀ x ∈ s, ∀ y ∈ s, x - y ≤ w
theorem sp_iff {r : List Int} (h : 0 < r.length) (w : Int) : mostOf r[0] r - leastOf r[0] r ≤ w ↔ Sp r w := by
  have hm : mostOf r[0] r ∈ r := by
    rcases mostOf_in r r[0] with e | e
    · rw [e]; exact List.getElem_mem h
    · exact e
  have hl : leastOf r[0] r ∈ r := by
    have : ∀ (xs : List Int) (c : Int), leastOf c xs = c ∨ leastOf c xs ∈ xs := by
      intro xs
      induction xs with
      | nil => intro c; exact .inl rfl
      | cons y ys ih =>
        intro c
        rcases ih (min c y) with h | h
        · have e : leastOf c (y :: ys) = min c y := h
          rw [e]
          by_cases g : c ≤ y
          · left; omega
          · right; rw [show min c y = y by omega]; simp
        · right
          have e : leastOf c (y :: ys) = leastOf (min c y) ys := rfl
          rw [e]
          simp [h]
    rcases this r r[0] with e | e
    · rw [e]; exact List.getElem_mem h
    · exact e
  constructor
  · intro hw x hx y hy
    have := (mostOf_ge r r[0]).2 x hx
    have := (leastOf_le r r[0]).2 y hy
    omega
  · intro hs
    exact hs _ hm _ hl
theorem sp_pre {p K : List Int} {w : Int} (h : Sp (p ++ K) w) : Sp p w := fun x hx y hy => h x (by simp [hx]) y (by simp [hy])
theorem part_pre {D A : List (List Int)} {p K : List Int} (h : Part D A (p ++ K)) : Part D A p :=
  ⟨fun i hi => by
    have := h.dom i (by simp; omega)
    rwa [List.getElem_append_left hi] at this,
   fun i hi k hk => by
    have := h.far i (by simp; omega) k hk
    rwa [List.getElem_append_left hi, List.getElem_append_left (by omega)] at this⟩
/-- all choices for the next item -/
noncomputable def nch (D A : List (List Int)) (pre : List Int) : List Int := chs D A pre pre.length (D.getD pre.length []).length
theorem nch_part {D A : List (List Int)} (h : PrD D A) {pre : List Int} (hp : Part D A pre) (hl : pre.length < D.length) {c : Int} (hc : c ∈ nch D A pre) : Part D A (pre ++ [c]) := by
  unfold nch chs at hc
  obtain ⟨h1, h2⟩ := List.mem_filter.1 hc
  rw [bp_true] at h2
  exact part_snoc hp (List.mem_of_mem_take h1) fun j hj => h2 j hj (by omega) (part_small h hp (by omega) j hj).1
theorem nch_mem {D A : List (List Int)} {pre : List Int} {c : Int} {K : List Int} (hp : Part D A (pre ++ c :: K)) : c ∈ nch D A pre := by
  have e : (pre ++ c :: K)[pre.length]'(by simp) = c := by simp
  unfold nch chs
  refine List.mem_filter.2 ⟨?_, ?_⟩
  · rw [List.take_length]
    have := hp.dom pre.length (by simp)
    rwa [e] at this
  · rw [bp_true]
    intro k hk _ _
    have := hp.far pre.length (by simp) k hk
    rwa [e, List.getElem_append_left hk] at this
/-- how many nodes the whole search has -/
noncomputable def vis (D A : List (List Int)) : Nat → List Int → Nat
  | 0, _ => 1
  | f + 1, pre => 1 + ((nch D A pre).map fun c => vis D A f (pre ++ [c])).sum
noncomputable def visT (D A : List (List Int)) (f : Nat) (pre : List Int) (k : Nat) : Nat := (((nch D A pre).take k).map fun c => vis D A f (pre ++ [c])).sum
theorem visT_zero (D A : List (List Int)) (f : Nat) (pre : List Int) : visT D A f pre 0 = 0 := rfl
theorem visT_succ {D A : List (List Int)} {f : Nat} {pre : List Int} {k : Nat} (hk : k < (nch D A pre).length) : visT D A f pre (k + 1) = visT D A f pre k + vis D A f (pre ++ [(nch D A pre)[k]]) := by
  unfold visT
  rw [List.take_succ_eq_append_getElem hk, List.map_append, List.sum_append]
  simp only [List.map_cons, List.map_nil, List.sum_cons, List.sum_nil, Nat.add_zero]
theorem vis_eq (D A : List (List Int)) (f : Nat) (pre : List Int) : vis D A (f + 1) pre = 1 + visT D A f pre (nch D A pre).length := by
  unfold visT
  rw [List.take_length]
  rfl
theorem visT_mono {D A : List (List Int)} {f : Nat} {pre : List Int} (k : Nat) : visT D A f pre k ≤ visT D A f pre (nch D A pre).length := by
  unfold visT
  rw [List.take_length]
  conv => rhs; rw [← List.take_append_drop k (nch D A pre)]
  rw [List.map_append, List.sum_append]
  omega
abbrev AS := Int × Int × List Int
structure VsOk (D A : List (List Int)) (fst : Bool) (w : Int) (V : Nat) (pre : List Int) (b fd : Int) (r : AS) : Prop where
  lo : -1 ≤ r.1
  dn : r.1 < b
  fl : fd ≤ r.2.1
  fh : r.2.1 ≤ fd + (b - r.1)
  rm : (V : Int) ≤ b → b - V ≤ r.1
  ex : fst = false → 0 ≤ r.1 → r.1 + V ≤ b
  len : r.2.2.length ≤ D.length
  res : 0 ≤ r.1 → (r.2.1 = fd ∧ r.2.2 = pre ∧ ∀ K, Asg D A (pre ++ K) → ¬ Sp (pre ++ K) w) ∨ (fd < r.2.1 ∧ (fst = false → r.2.2 = pre) ∧ ∃ s, Asg D A s ∧ Sp s w ∧ (fst = true → r.2.2 = s))
structure VsI (D A : List (List Int)) (fst : Bool) (w : Int) (f : Nat) (pre : List Int) (b fd : Int) (k : Nat) (r : Int × Int) : Prop where
  lo : 0 ≤ r.1
  hi : r.1 ≤ b - 1
  fl : fd ≤ r.2
  fh : r.2 ≤ fd + (b - r.1)
  rm : 1 + (visT D A f pre k : Int) ≤ b → b - 1 - visT D A f pre k ≤ r.1
  ex : fst = false → r.1 + 1 + visT D A f pre k ≤ b
  res : (r.2 = fd ∧ ∀ j (h : j < (nch D A pre).length), j < k → ∀ K, Asg D A (pre ++ (nch D A pre)[j] :: K) → ¬ Sp (pre ++ (nch D A pre)[j] :: K) w) ∨ (fst = false ∧ fd < r.2 ∧ ∃ s, Asg D A s ∧ Sp s w)
section
variable {D A : List (List Int)} {fst : Bool} {w : Int} {f : Nat} {pre : List Int} {b fd : Int}
theorem vsI_zero (hb : 1 ≤ b) : VsI D A fst w f pre b fd 0 (b - 1, fd) := by
  refine ⟨by show 0 ≤ b - 1; omega, Int.le_refl _, Int.le_refl _, by show fd ≤ fd + (b - (b - 1)); omega, fun _ => ?_, fun _ => ?_, .inl ⟨rfl, fun j _ h => absurd h (Nat.not_lt_zero _)⟩⟩
  · rw [visT_zero]
    show b - 1 - 0 ≤ b - 1
    omega
  · rw [visT_zero]
    show b - 1 + 1 + 0 ≤ b
    omega
theorem vsI_skip {k : Nat} {r : Int × Int} (h : VsI D A fst w f pre b fd k r) (hk : k < (nch D A pre).length) (hf : fst = true) (hs : ¬ Sp (pre ++ [(nch D A pre)[k]]) w) : VsI D A fst w f pre b fd (k + 1) r := by
  have e := visT_succ (f := f) hk
  refine ⟨h.lo, h.hi, h.fl, h.fh, fun h1 => ?_, fun h1 => by rw [hf] at h1; simp at h1, ?_⟩
  · have := h.rm (by omega)
    omega
  · rcases h.res with ⟨h1, h2⟩ | ⟨h1, _⟩
    · refine .inl ⟨h1, fun j hj hjk K hK hsp => ?_⟩
      by_cases ej : j = k
      · subst ej
        exact hs (sp_pre (K := K) (by simpa using hsp))
      · exact h2 j hj (by omega) K hK hsp
    · rw [hf] at h1; simp at h1
theorem vsI_none {k : Nat} {r : Int × Int} {r' : AS} (h : VsI D A fst w f pre b fd k r) (hk : k < (nch D A pre).length) (hv : VsOk D A fst w (vis D A f (pre ++ [(nch D A pre)[k]])) (pre ++ [(nch D A pre)[k]]) r.1 r.2 r') (h0 : 0 ≤ r'.1)
    (hn : r'.2.1 = r.2 ∧ ∀ K, Asg D A (pre ++ [(nch D A pre)[k]] ++ K) → ¬ Sp (pre ++ [(nch D A pre)[k]] ++ K) w) : VsI D A fst w f pre b fd (k + 1) (r'.1, r'.2.1) := by
  have e := visT_succ (f := f) hk
  have a1 := h.hi
  have a2 := hv.dn
  have a3 := h.fh
  have a4 := hv.fh
  have a5 := h.fl
  have a6 := hv.fl
  refine ⟨h0, by show r'.1 ≤ b - 1; omega, by show fd ≤ r'.2.1; omega, by show r'.2.1 ≤ fd + (b - r'.1); omega, fun h1 => ?_, fun h1 => ?_, ?_⟩
  · have b1 := h.rm (by omega)
    have b2 := hv.rm (by omega)
    show b - 1 - _ ≤ r'.1
    omega
  · have b1 := h.ex h1
    have b2 := hv.ex h1 h0
    show r'.1 + 1 + _ ≤ b
    omega
  · rcases h.res with ⟨h1, h2⟩ | ⟨h1, h2, h3⟩
    · refine .inl ⟨hn.1.trans h1, fun j hj hjk K hK hsp => ?_⟩
      by_cases ej : j = k
      · subst ej
        exact hn.2 K (by simpa using hK) (by simpa using hsp)
      · exact h2 j hj (by omega) K hK hsp
    · exact .inr ⟨h1, by show fd < r'.2.1; omega, h3⟩
theorem vsI_more {k : Nat} {r : Int × Int} {r' : AS} (h : VsI D A fst w f pre b fd k r) (hk : k < (nch D A pre).length) (hv : VsOk D A fst w (vis D A f (pre ++ [(nch D A pre)[k]])) (pre ++ [(nch D A pre)[k]]) r.1 r.2 r') (h0 : 0 ≤ r'.1)
    (hf : fst = false) (hn : r.2 < r'.2.1 ∧ ∃ s, Asg D A s ∧ Sp s w) : VsI D A fst w f pre b fd (k + 1) (r'.1, r'.2.1) := by
  have e := visT_succ (f := f) hk
  have a1 := h.hi
  have a2 := hv.dn
  have a3 := h.fh
  have a4 := hv.fh
  have a5 := h.fl
  refine ⟨h0, by show r'.1 ≤ b - 1; omega, by show fd ≤ r'.2.1; omega, by show r'.2.1 ≤ fd + (b - r'.1); omega, fun h1 => ?_, fun h1 => ?_, .inr ⟨hf, by show fd < r'.2.1; omega, hn.2⟩⟩
  · have b1 := h.rm (by omega)
    have b2 := hv.rm (by omega)
    show b - 1 - _ ≤ r'.1
    omega
  · have b1 := h.ex h1
    have b2 := hv.ex h1 h0
    show r'.1 + 1 + _ ≤ b
    omega
/-- the budget is used up -/
theorem vsOk_out {k : Nat} {r : Int × Int} {r' : AS} (h : VsI D A fst w f pre b fd k r) (hk : k < (nch D A pre).length) (hv : VsOk D A fst w (vis D A f (pre ++ [(nch D A pre)[k]])) (pre ++ [(nch D A pre)[k]]) r.1 r.2 r') (h0 : r'.1 < 0) : VsOk D A fst w (vis D A (f + 1) pre) pre b fd r' := by
  have e := visT_succ (f := f) hk
  have e2 := vis_eq D A f pre
  have e3 := visT_mono (D := D) (A := A) (f := f) (pre := pre) (k + 1)
  have a1 := h.hi
  have a2 := hv.dn
  have a3 := h.fh
  have a4 := hv.fh
  have a5 := h.fl
  have a6 := hv.fl
  refine ⟨hv.lo, by omega, by omega, by omega, fun h1 => ?_, fun _ h1 => by omega, hv.len, fun h1 => by omega⟩
  exfalso
  have b1 := h.rm (by omega)
  have b2 := hv.rm (by omega)
  omega
/-- one was found, and it is the first -/
theorem vsOk_found {k : Nat} {r : Int × Int} {r' : AS} (h : VsI D A fst w f pre b fd k r) (hk : k < (nch D A pre).length) (hv : VsOk D A fst w (vis D A f (pre ++ [(nch D A pre)[k]])) (pre ++ [(nch D A pre)[k]]) r.1 r.2 r')
    (hf : fst = true) (hn : r.2 < r'.2.1 ∧ ∃ s, Asg D A s ∧ Sp s w ∧ (fst = true → r'.2.2 = s)) : VsOk D A fst w (vis D A (f + 1) pre) pre b fd r' := by
  have e := visT_succ (f := f) hk
  have e2 := vis_eq D A f pre
  have e3 := visT_mono (D := D) (A := A) (f := f) (pre := pre) (k + 1)
  have a1 := h.hi
  have a2 := hv.dn
  have a3 := h.fh
  have a4 := hv.fh
  have a5 := h.fl
  refine ⟨hv.lo, by omega, by omega, by omega, fun h1 => ?_, fun h1 => by rw [hf] at h1; simp at h1, hv.len, fun _ => .inr ⟨by omega, fun h1 => by rw [hf] at h1; simp at h1, hn.2⟩⟩
  have b1 := h.rm (by omega)
  have b2 := hv.rm (by omega)
  omega
theorem vsOk_end {r : Int × Int} (h : VsI D A fst w f pre b fd (nch D A pre).length r) (hl : pre.length < D.length) : VsOk D A fst w (vis D A (f + 1) pre) pre b fd (r.1, r.2, pre) := by
  have e2 := vis_eq D A f pre
  have a1 := h.hi
  have a0 := h.lo
  refine ⟨by show -1 ≤ r.1; omega, by show r.1 < b; omega, h.fl, h.fh, fun h1 => ?_, fun h1 _ => ?_, by show pre.length ≤ _; omega, fun _ => ?_⟩
  · have := h.rm (by omega)
    show b - _ ≤ r.1
    omega
  · have := h.ex h1
    show r.1 + _ ≤ b
    omega
  · rcases h.res with ⟨h1, h2⟩ | ⟨h1, h2, s, h3, h4⟩
    · refine .inl ⟨h1, rfl, fun K hK hs => ?_⟩
      cases K with
      | nil =>
        have := hK.len
        simp at this
        omega
      | cons c K =>
        obtain ⟨j, hj, e⟩ := List.getElem_of_mem (nch_mem hK.part)
        subst e
        exact h2 j hj hj K hK hs
    · exact .inr ⟨h2, fun _ => rfl, s, h3, h4, fun h => by rw [h1] at h; simp at h⟩
/-- all items have channels -/
theorem vsOk_leaf (hl : pre.length = D.length) (hp : Part D A pre) (hs : Sp pre w) (hb : 1 ≤ b) : VsOk D A fst w (vis D A 0 pre) pre b fd (b - 1, fd + 1, pre) := by
  have e : vis D A 0 pre = 1 := rfl
  rw [e]
  refine ⟨by show -1 ≤ b - 1; omega, by show b - 1 < b; omega, by show fd ≤ fd + 1; omega, by show fd + 1 ≤ fd + (b - (b - 1)); omega, fun _ => Int.le_refl _, fun _ _ => by show b - 1 + 1 ≤ b; omega, by show pre.length ≤ _; omega, fun _ => .inr ⟨by show fd < fd + 1; omega, fun _ => rfl, pre, ⟨hl, hp⟩, hs, fun _ => rfl⟩⟩
/-- no budget at all -/
theorem vsOk_none {V : Nat} (hV : 1 ≤ V) (hl : pre.length ≤ D.length) (hb : b = 0) : VsOk D A fst w V pre b fd (b - 1, fd, pre) := by
  refine ⟨by show -1 ≤ b - 1; omega, by show b - 1 < b; omega, Int.le_refl _, by show fd ≤ fd + (b - (b - 1)); omega, fun h => by omega, fun _ h => ?_, hl, fun h => ?_⟩
  · have : 0 ≤ b - 1 := h
    omega
  · have : 0 ≤ b - 1 := h
    omega
end
theorem vis_pos (D A : List (List Int)) (f : Nat) (pre : List Int) : 1 ≤ vis D A f pre := by
  cases f with
  | zero => exact Nat.le_refl _
  | succ f => rw [vis_eq]; omega
end Go.Proofs.Yteempjinbolkaaa
