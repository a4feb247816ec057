/-
  OWN WORK: servers of adjacent cells: the reference's side.
-/
import Derived.Test.YtlcijhpjbkekpaaStD
import Derived.Test.YtlcijhpjbkekpaaRaD
namespace Go.Proofs.Ytlcijhpjbkekpaa
open Go Go.Own Go.Proofs
set_option maxHeartbeats 4000000
set_option maxRecDepth 20000
set_option linter.unusedSimpArgs false
theorem rowsQ_none (n : Nat) {q : Int → Int → Prop} (h : ∀ x y, ¬ q x y) : rowsQ q n = List.replicate n [] := by
  refine List.ext_getElem (by simp [rowsQ_length]) fun i h1 h2 => ?_
  have hi : i < n := by rw [rowsQ_length] at h1; exact h1
  rw [rowsQ_get q hi, List.getElem_replicate, ← plK_none n]
  exact plK_congr fun k _ => ⟨fun e => (h _ _ e).elim, False.elim⟩
theorem rowsQ_set (q : Int → Int → Prop) {n x : Nat} (p : Int → Prop) : (rowsQ q n).set x (plK p n) = rowsQ (fun a b => (a = x ∧ p b) ∨ (a ≠ x ∧ q a b)) n := by
  refine List.ext_getElem (by simp [rowsQ_length]) fun i h1 h2 => ?_
  have hi : i < n := by rw [rowsQ_length] at h2; exact h2
  rw [List.getElem_set, rowsQ_get _ hi]
  by_cases e : x = i
  · subst e
    rw [if_pos rfl]
    rw [rowsQ_get _ hi]
    exact plK_congr (q := p) (q' := fun b => ((x : Int) = x ∧ p b) ∨ ((x : Int) ≠ x ∧ q x b)) fun k _ => ⟨fun h => Or.inl ⟨rfl, h⟩, fun h => h.elim (fun h => h.2) fun h => (h.1 rfl).elim⟩
  · rw [if_neg e, rowsQ_get _ hi]
    first | rw [rowsQ_get _ hi] | skip
    exact plK_congr (q := q i) (q' := fun b => ((i : Int) = x ∧ p b) ∨ ((i : Int) ≠ x ∧ q i b)) fun k _ => ⟨fun h => Or.inr ⟨by omega, h⟩, fun h => h.elim (fun h => by omega) fun h => h.2⟩
theorem rowsQ_put {q : Int → Int → Prop} {n x y : Nat} (hx : x < n) (hy : y < n) (hne : x ≠ y) : ((rowsQ q n).set x (put (plK (q x) n) y)).set y (put (plK (q y) n) x) = rowsQ (addP q x y) n := by
  rw [put_plK hy, put_plK hx, rowsQ_set, rowsQ_set]
  refine rowsQ_congr fun i k hi hk => ?_
  unfold addP
  constructor
  · rintro (⟨e, h | h⟩ | ⟨h0, ⟨e, h | h⟩ | ⟨e, h⟩⟩)
    · exact .inl (by rw [e]; exact h)
    · exact .inr (.inr ⟨e, h⟩)
    · exact .inl (by rw [e]; exact h)
    · exact .inr (.inl ⟨e, h⟩)
    · exact .inl h
  · rintro (h | h | h)
    · by_cases e1 : (i : Int) = y
      · exact .inl ⟨e1, .inl (by rw [← e1]; exact h)⟩
      · by_cases e2 : (i : Int) = x
        · exact .inr ⟨e1, .inl ⟨e2, .inl (by rw [← e2]; exact h)⟩⟩
        · exact .inr ⟨e1, .inr ⟨e2, h⟩⟩
    · exact .inr ⟨by omega, .inl ⟨h.1, .inr h.2⟩⟩
    · exact .inl ⟨h.1, .inr h.2⟩
theorem den_specAdjacentServers (s w h : Int) (sv lv : List Int) : Den Try.prog 5 [rasV s w h sv lv] (.tup [intss (adL s w h sv lv), .i (adC s w h sv lv)]) := by
  refine den_of_awpG (ghs [] [20, 21]) Try.func5 rfl (by kernel_rfl) (Nat.le_of_ble_eq_true rfl) (by simp only [treeL, AVal.tree, treeL_i, treeL_ints, treeL_u8, treeL_append, Bool.and_self, Bool.and_true, Bool.true_and]) (by first | rfl | simp only [treeL, AVal.tree, treeL_i, treeL_ints, treeL_u8, treeL_append, Bool.and_self, Bool.and_true, Bool.true_and]) mixed (by kernel_rfl) fun hl => ?_
  simp only [lensL, lens, lensL_i, lensL_mapC, maxI, and_true, true_and] at hl
  rw [Try.ntmps5]
  refine ex_start ?_
  by_cases h1 : OkRas s w h sv lv
  case neg =>
    obtain ⟨e1, e2⟩ := ad_no h1
    rw [e1, e2]
    simp (config := { maxSteps := 1000000 }) +decide only [NoH, Old, OldL, nilQ, nilA, RechL, ReY, isNew, stepO, XPost, postN, XOk, updN, updU, isEff, avalue, aeff, ASt.eval, ASt.put, ASt.set, ASt.new, Nat.reduceDiv, Nat.reduceAdd, Int.reduceToNat, absV, absC, scalar, alen, acap, conc, flats, live, blkOf, aload, rd, part?, afieldAddr, afield, aindexAddr, cellsOf, afill, places, abuild, optI, asliceV, asliceS, szOk, srcCells, aappend, astore, amakeSlice, abuildSlice, snapL, mapO, treeL, AVal.tree, AVal.flatT, isFlat, ares, isFz, afroz, afrozB, lookupA, lookupH, tops, if_true, if_false, reduceCtorEq, forall_const, ite_true, ite_false, implies_true, walkS, tabS, Try.results5]
    refine callK (den_l20Ok s w h sv lv) (by first | exact .inl rfl | exact .inr rfl) ?_
    simp (config := { maxSteps := 1000000 }) +decide only [NoH, Old, OldL, nilQ, nilA, RechL, ReY, isNew, stepO, XPost, postN, XOk, updN, updU, isEff, avalue, aeff, ASt.eval, ASt.put, ASt.set, ASt.new, Nat.reduceDiv, Nat.reduceAdd, Int.reduceToNat, absV, absC, scalar, alen, acap, conc, flats, live, blkOf, aload, rd, part?, afieldAddr, afield, aindexAddr, cellsOf, afill, places, abuild, optI, asliceV, asliceS, szOk, srcCells, aappend, astore, amakeSlice, abuildSlice, snapL, mapO, treeL, AVal.tree, AVal.flatT, isFlat, ares, isFz, afroz, afrozB, lookupA, lookupH, tops, if_true, if_false, reduceCtorEq, forall_const, ite_true, ite_false, implies_true, walkS, tabS, Try.results5, h1, mapC_nil]
  obtain ⟨e1, e2⟩ := ad_yes h1
  rw [e1, e2]
  obtain ⟨n, hn, en, hsv, _⟩ := sc_yes h1
  have eN : adN sv = n := by unfold adN; omega
  rw [eN]
  obtain ⟨W, rfl⟩ : ∃ W : Nat, w = W := ⟨w.toNat, by have := h1.1.2.1; omega⟩
  have hW : 2 ≤ W ∧ W ≤ 24 := by have := h1.1.2.1; omega
  have eW2 : (W : Int).toNat = W := by omega
  rw [eW2]
  have hsl := (ok_pos h1).2
  have hb := ok_sv h1
  simp (config := { maxSteps := 1000000 }) +decide only [NoH, Old, OldL, nilQ, nilA, RechL, ReY, isNew, stepO, XPost, postN, XOk, updN, updU, isEff, avalue, aeff, ASt.eval, ASt.put, ASt.set, ASt.new, Nat.reduceDiv, Nat.reduceAdd, Int.reduceToNat, absV, absC, scalar, alen, acap, conc, flats, live, blkOf, aload, rd, part?, afieldAddr, afield, aindexAddr, cellsOf, afill, places, abuild, optI, asliceV, asliceS, szOk, srcCells, aappend, astore, amakeSlice, abuildSlice, snapL, mapO, treeL, AVal.tree, AVal.flatT, isFlat, ares, isFz, afroz, afrozB, lookupA, lookupH, tops, if_true, if_false, reduceCtorEq, forall_const, ite_true, ite_false, implies_true, walkS, tabS, Try.results5]
  refine callK (den_l20Ok s W h sv lv) (by first | exact .inl rfl | exact .inr rfl) ?_
  simp (config := { maxSteps := 1000000 }) +decide only [NoH, Old, OldL, nilQ, nilA, RechL, ReY, isNew, stepO, XPost, postN, XOk, updN, updU, isEff, avalue, aeff, ASt.eval, ASt.put, ASt.set, ASt.new, Nat.reduceDiv, Nat.reduceAdd, Int.reduceToNat, absV, absC, scalar, alen, acap, conc, flats, live, blkOf, aload, rd, part?, afieldAddr, afield, aindexAddr, cellsOf, afill, places, abuild, optI, asliceV, asliceS, szOk, srcCells, aappend, astore, amakeSlice, abuildSlice, snapL, mapO, treeL, AVal.tree, AVal.flatT, isFlat, ares, isFz, afroz, afrozB, lookupA, lookupH, tops, if_true, if_false, reduceCtorEq, forall_const, ite_true, ite_false, implies_true, walkS, tabS, Try.results5, h1]
  refine callK (den_l21Most s W h sv lv (ok_sv h1)) (by first | exact .inl rfl | exact .inr rfl) ?_
  simp (config := { maxSteps := 1000000 }) +decide only [NoH, Old, OldL, nilQ, nilA, RechL, ReY, isNew, stepO, XPost, postN, XOk, updN, updU, isEff, avalue, aeff, ASt.eval, ASt.put, ASt.set, ASt.new, Nat.reduceDiv, Nat.reduceAdd, Int.reduceToNat, absV, absC, scalar, alen, acap, conc, flats, live, blkOf, aload, rd, part?, afieldAddr, afield, aindexAddr, cellsOf, afill, places, abuild, optI, asliceV, asliceS, szOk, srcCells, aappend, astore, amakeSlice, abuildSlice, snapL, mapO, treeL, AVal.tree, AVal.flatT, isFlat, ares, isFz, afroz, afrozB, lookupA, lookupH, tops, if_true, if_false, reduceCtorEq, forall_const, ite_true, ite_false, implies_true, walkS, tabS, Try.results5, en]
  refine ex_loop (fun p : {p : Nat × Nat × Nat // p.1 ≤ n} => mkG (ghs [] [20, 21]) [(1, .ptr 1 0 0), (4, .own 13 p.1.2.1 0 p.1.1), (5, .i (n - p.1.1 : Nat))] [(1, ⟨0, 5, [.i s, .i W, .i h, ints sv, ints lv]⟩), (13, ⟨p.1.2.1, 1, mapC ints (List.replicate p.1.1 [])⟩)] p.1.2.2 101) (fun p => n - p.1.1) ⟨(0, 1, 2), by simp⟩ ?_ ?_
  · refine weak_mk rfl (by first | exact Nat.le_refl _ | (simp only [mk_gen]; omega)) ?_ ?_ <;> simp +decide only [w_lookup_nil, w_lookup_cons, ch_ch, ch_lit, lit_ch, wkT, wkH, wkB, WVL, WV_refl', Int.natCast_zero, Int.natCast_add, Int.natCast_one, Nat.sub_self, Nat.sub_zero, List.replicate_zero, List.take_zero, List.nil_append, List.append_nil, fillC_zero, Nat.reduceDiv, Nat.reduceAdd, upd_bk, bk_at, getB_zero, getB_succ, modB_zero, modB_succ, rows_lit, repB_zero, repB_succ, List.length_cons, List.length_nil, upd_upd_same, upd_apply, mk_tmp, mk_heap, mk_gen, lookupA, lookupH, List.getD_cons_zero, List.getD_cons_succ, init_two, tops, Bool.true_and, and_self, and_true, true_and, true_or, if_true, if_false, ite_true, ite_false, reduceCtorEq, reduceIte, mapC_nil]
  rintro ⟨⟨k, g, G⟩, hk⟩
  have hk' : k ≤ n := hk
  by_cases klt : k < n
  case pos =>
    have hp : (0 : Int) < ((n - k : Nat) : Int) := by omega
    have hw : IntKind.i64.wrap (((n - k : Nat) : Int) - 1) = ((n - (k + 1) : Nat) : Int) := (wrap64 (by omega) (by omega)).trans (by omega)
    have h24 : (k + 1) * 24 ≤ 140737488355328 := by omega
    have tk : (List.replicate k ([] : List Int)).take k = List.replicate k [] := List.take_of_length_le (by simp)
    simp (config := { maxSteps := 1000000 }) +decide only [NoH, Old, OldL, nilQ, nilA, RechL, ReY, isNew, stepO, XPost, postN, XOk, updN, updU, isEff, avalue, aeff, ASt.eval, ASt.put, ASt.set, ASt.new, Nat.reduceDiv, Nat.reduceAdd, Int.reduceToNat, absV, absC, scalar, alen, acap, conc, flats, live, blkOf, aload, rd, part?, afieldAddr, afield, aindexAddr, cellsOf, afill, places, abuild, optI, asliceV, asliceS, szOk, srcCells, aappend, astore, amakeSlice, abuildSlice, snapL, mapO, treeL, AVal.tree, AVal.flatT, isFlat, ares, isFz, afroz, afrozB, lookupA, lookupH, tops, if_true, if_false, reduceCtorEq, forall_const, ite_true, ite_false, implies_true, walkS, tabS, Try.results5, eq_true hp, hw, h24, tk, List.length_replicate, List.replicate_succ, List.flatten_cons, List.flatten_nil, mapC_nil]
    refine ⟨⟨(k + 1, G, G + 1), klt⟩, ?_, by show n - (k + 1) < n - k; omega⟩
    have er : mapC ints (List.replicate (k + 1) []) = mapC ints (List.replicate k []) ++ [AVal.lst [] 0] := by
      rw [List.replicate_succ', mapC_append]
      rfl
    refine weak_mk rfl (by first | exact Nat.le_refl _ | (simp only [mk_gen]; omega)) ?_ ?_ <;> simp +decide only [w_lookup_nil, w_lookup_cons, ch_ch, ch_lit, lit_ch, wkT, wkH, wkB, WVL, WV_refl', Int.natCast_zero, Int.natCast_add, Int.natCast_one, Nat.sub_self, Nat.sub_zero, List.replicate_zero, List.take_zero, List.nil_append, List.append_nil, fillC_zero, Nat.reduceDiv, Nat.reduceAdd, upd_bk, bk_at, getB_zero, getB_succ, modB_zero, modB_succ, rows_lit, repB_zero, repB_succ, List.length_cons, List.length_nil, upd_upd_same, upd_apply, mk_tmp, mk_heap, mk_gen, lookupA, lookupH, List.getD_cons_zero, List.getD_cons_succ, init_two, tops, Bool.true_and, and_self, and_true, true_and, true_or, if_true, if_false, ite_true, ite_false, reduceCtorEq, reduceIte, er, List.length_replicate]
  have e : n = k := by omega
  subst e
  have hp : ¬ (0 : Int) < ((n - n : Nat) : Int) := by omega
  have ez : List.replicate n ([] : List Int) = rowsQ (adjT sv W (2 * 0)) n := (rowsQ_none n fun x y h => adjT_zero.1 h).symm
  simp (config := { maxSteps := 1000000 }) +decide only [NoH, Old, OldL, nilQ, nilA, RechL, ReY, isNew, stepO, XPost, postN, XOk, updN, updU, isEff, avalue, aeff, ASt.eval, ASt.put, ASt.set, ASt.new, Nat.reduceDiv, Nat.reduceAdd, Int.reduceToNat, absV, absC, scalar, alen, acap, conc, flats, live, blkOf, aload, rd, part?, afieldAddr, afield, aindexAddr, cellsOf, afill, places, abuild, optI, asliceV, asliceS, szOk, srcCells, aappend, astore, amakeSlice, abuildSlice, snapL, mapO, treeL, AVal.tree, AVal.flatT, isFlat, ares, isFz, afroz, afrozB, lookupA, lookupH, tops, if_true, if_false, reduceCtorEq, forall_const, ite_true, ite_false, implies_true, walkS, tabS, Try.results5, eq_false hp, ez]
  refine ex_loop (fun p : {p : Nat // p ≤ sv.length} => mkG (ghs [] [20, 21]) [(1, .ptr 1 0 0), (4, .own 13 g 0 n), (6, .i p.1)] [(1, ⟨0, 5, [.i s, .i W, .i h, ints sv, ints lv]⟩), (13, ⟨g, 1, mapC ints (rowsQ (adjT sv W (2 * p.1)) n)⟩)] G 101) (fun p => sv.length - p.1) ⟨0, Nat.zero_le _⟩ ?_ ?_
  · refine weak_mk rfl (by first | exact Nat.le_refl _ | (simp only [mk_gen]; omega)) ?_ ?_ <;> simp +decide only [w_lookup_nil, w_lookup_cons, ch_ch, ch_lit, lit_ch, wkT, wkH, wkB, WVL, WV_refl', Int.natCast_zero, Int.natCast_add, Int.natCast_one, Nat.sub_self, Nat.sub_zero, List.replicate_zero, List.take_zero, List.nil_append, List.append_nil, fillC_zero, Nat.reduceDiv, Nat.reduceAdd, upd_bk, bk_at, getB_zero, getB_succ, modB_zero, modB_succ, rows_lit, repB_zero, repB_succ, List.length_cons, List.length_nil, upd_upd_same, upd_apply, mk_tmp, mk_heap, mk_gen, lookupA, lookupH, List.getD_cons_zero, List.getD_cons_succ, init_two, tops, Bool.true_and, and_self, and_true, true_and, true_or, if_true, if_false, ite_true, ite_false, reduceCtorEq, reduceIte]
  rintro ⟨i, hi⟩
  have hi' : i ≤ sv.length := hi
  by_cases ilt : i < sv.length
  case neg =>
    have e : i = sv.length := by omega
    subst e
    have hln := rowsQ_length (adjT sv W (2 * sv.length)) n
    have tk : (rowsQ (adjT sv W (2 * sv.length)) n).take n = rowsQ (adjT sv W (2 * sv.length)) n := List.take_of_length_le (by omega)
    simp (config := { maxSteps := 1000000 }) +decide only [NoH, Old, OldL, nilQ, nilA, RechL, ReY, isNew, stepO, XPost, postN, XOk, updN, updU, isEff, avalue, aeff, ASt.eval, ASt.put, ASt.set, ASt.new, Nat.reduceDiv, Nat.reduceAdd, Int.reduceToNat, absV, absC, scalar, alen, acap, conc, flats, live, blkOf, aload, rd, part?, afieldAddr, afield, aindexAddr, cellsOf, afill, places, abuild, optI, asliceV, asliceS, szOk, srcCells, aappend, astore, amakeSlice, abuildSlice, snapL, mapO, treeL, AVal.tree, AVal.flatT, isFlat, ares, isFz, afroz, afrozB, lookupA, lookupH, tops, if_true, if_false, reduceCtorEq, forall_const, ite_true, ite_false, implies_true, walkS, tabS, Try.results5, ilt, tk, hln]
  have hw : IntKind.i64.wrap ((i : Int) + 1) = ((i + 1 : Nat) : Int) := wrap64 (by omega) (by omega)
  simp (config := { maxSteps := 1000000 }) +decide only [NoH, Old, OldL, nilQ, nilA, RechL, ReY, isNew, stepO, XPost, postN, XOk, updN, updU, isEff, avalue, aeff, ASt.eval, ASt.put, ASt.set, ASt.new, Nat.reduceDiv, Nat.reduceAdd, Int.reduceToNat, absV, absC, scalar, alen, acap, conc, flats, live, blkOf, aload, rd, part?, afieldAddr, afield, aindexAddr, cellsOf, afill, places, abuild, optI, asliceV, asliceS, szOk, srcCells, aappend, astore, amakeSlice, abuildSlice, snapL, mapO, treeL, AVal.tree, AVal.flatT, isFlat, ares, isFz, afroz, afrozB, lookupA, lookupH, tops, if_true, if_false, reduceCtorEq, forall_const, ite_true, ite_false, implies_true, walkS, tabS, Try.results5, ilt, hw]
  refine ex_loop (fun p : {p : Nat // p ≤ 2} => mkG (ghs [] [20, 21]) [(1, .ptr 1 0 0), (4, .own 13 g 0 n), (6, .i i), (7, .i p.1)] [(1, ⟨0, 5, [.i s, .i W, .i h, ints sv, ints lv]⟩), (13, ⟨g, 1, mapC ints (rowsQ (adjT sv W (2 * i + p.1)) n)⟩)] G 101) (fun p => 2 - p.1) ⟨0, by omega⟩ ?_ ?_
  · refine weak_mk rfl (by first | exact Nat.le_refl _ | (simp only [mk_gen]; omega)) ?_ ?_ <;> simp +decide only [w_lookup_nil, w_lookup_cons, ch_ch, ch_lit, lit_ch, wkT, wkH, wkB, WVL, WV_refl', Int.natCast_zero, Int.natCast_add, Int.natCast_one, Nat.sub_self, Nat.sub_zero, List.replicate_zero, List.take_zero, List.nil_append, List.append_nil, fillC_zero, Nat.reduceDiv, Nat.reduceAdd, upd_bk, bk_at, getB_zero, getB_succ, modB_zero, modB_succ, rows_lit, repB_zero, repB_succ, List.length_cons, List.length_nil, upd_upd_same, upd_apply, mk_tmp, mk_heap, mk_gen, lookupA, lookupH, List.getD_cons_zero, List.getD_cons_succ, init_two, tops, Bool.true_and, and_self, and_true, true_and, true_or, if_true, if_false, ite_true, ite_false, reduceCtorEq, reduceIte, Nat.add_zero]
  rintro ⟨t, ht⟩
  have ht' : t ≤ 2 := ht
  have c0 : ((0 : Nat) : Int) = 0 := rfl
  have c1 : ((1 : Nat) : Int) = 1 := rfl
  have c2 : ((2 : Nat) : Int) = 2 := rfl
  have v1 : IntKind.i64.wrap (0 + 1) = 1 := rfl
  have v2 : IntKind.i64.wrap (1 + 1) = 2 := rfl
  have v1 : IntKind.i64.wrap (0 + 1) = 1 := rfl
  have v2 : IntKind.i64.wrap (1 + 1) = 2 := rfl
  have hww : IntKind.i64.wrap ((i : Int) + (W : Int)) = ((i + W : Nat) : Int) := wrap64 (by omega) (by omega)
  have hw1 : IntKind.i64.wrap ((W : Int) - 1) = ((W - 1 : Nat) : Int) := (wrap64 (by omega) (by omega)).trans (by omega)
  have hW0 : (W : Int) ≠ 0 := by omega
  have hmod : ((i : Int)).tmod (W : Int) = ((i % W : Nat) : Int) := rfl
  have rl := fun q => rowsQ_length q n
  obtain rfl | rfl | rfl : t = 0 ∨ t = 1 ∨ t = 2 := by omega
  · simp only [Nat.add_zero]
    by_cases hq : i % W = W - 1 ∨ ¬ i + 1 < sv.length
    · have es : rowsQ (adjT sv W (2 * i + 1)) n = rowsQ (adjT sv W (2 * i)) n := rowsQ_congr fun x y _ _ => adjT_same (m := 2 * i) (fun x y => adjS_edge hq x y) _ _
      rcases Classical.em (i % W = W - 1) with hq1 | hq1
      · simp (config := { maxSteps := 1000000 }) +decide only [NoH, Old, OldL, nilQ, nilA, RechL, ReY, isNew, stepO, XPost, postN, XOk, updN, updU, isEff, avalue, aeff, ASt.eval, ASt.put, ASt.set, ASt.new, Nat.reduceDiv, Nat.reduceAdd, Int.reduceToNat, absV, absC, scalar, alen, acap, conc, flats, live, blkOf, aload, rd, part?, afieldAddr, afield, aindexAddr, cellsOf, afill, places, abuild, optI, asliceV, asliceS, szOk, srcCells, aappend, astore, amakeSlice, abuildSlice, snapL, mapO, treeL, AVal.tree, AVal.flatT, isFlat, ares, isFz, afroz, afrozB, lookupA, lookupH, tops, if_true, if_false, reduceCtorEq, forall_const, ite_true, ite_false, implies_true, walkS, tabS, Try.results5, c0, v1, ilt, hw, hmod, sem_rem, hW0, hw1, eq_true hq1]
        refine ⟨⟨1, by omega⟩, ?_, by show 2 - 1 < 2 - 0; omega⟩
        refine weak_mk rfl (by first | exact Nat.le_refl _ | (simp only [mk_gen]; omega)) ?_ ?_ <;> simp +decide only [w_lookup_nil, w_lookup_cons, ch_ch, ch_lit, lit_ch, wkT, wkH, wkB, WVL, WV_refl', Int.natCast_zero, Int.natCast_add, Int.natCast_one, Nat.sub_self, Nat.sub_zero, List.replicate_zero, List.take_zero, List.nil_append, List.append_nil, fillC_zero, Nat.reduceDiv, Nat.reduceAdd, upd_bk, bk_at, getB_zero, getB_succ, modB_zero, modB_succ, rows_lit, repB_zero, repB_succ, List.length_cons, List.length_nil, upd_upd_same, upd_apply, mk_tmp, mk_heap, mk_gen, lookupA, lookupH, List.getD_cons_zero, List.getD_cons_succ, init_two, tops, Bool.true_and, and_self, and_true, true_and, true_or, if_true, if_false, ite_true, ite_false, reduceCtorEq, reduceIte, es, c2, c1, Int.natCast_one]
      · have hq2 : (sv.length : Int) ≤ ((i + 1 : Nat) : Int) := by omega
        simp (config := { maxSteps := 1000000 }) +decide only [NoH, Old, OldL, nilQ, nilA, RechL, ReY, isNew, stepO, XPost, postN, XOk, updN, updU, isEff, avalue, aeff, ASt.eval, ASt.put, ASt.set, ASt.new, Nat.reduceDiv, Nat.reduceAdd, Int.reduceToNat, absV, absC, scalar, alen, acap, conc, flats, live, blkOf, aload, rd, part?, afieldAddr, afield, aindexAddr, cellsOf, afill, places, abuild, optI, asliceV, asliceS, szOk, srcCells, aappend, astore, amakeSlice, abuildSlice, snapL, mapO, treeL, AVal.tree, AVal.flatT, isFlat, ares, isFz, afroz, afrozB, lookupA, lookupH, tops, if_true, if_false, reduceCtorEq, forall_const, ite_true, ite_false, implies_true, walkS, tabS, Try.results5, c0, v1, ilt, hw, hmod, sem_rem, hW0, hw1, eq_false hq1, eq_true hq2]
        refine ⟨⟨1, by omega⟩, ?_, by show 2 - 1 < 2 - 0; omega⟩
        refine weak_mk rfl (by first | exact Nat.le_refl _ | (simp only [mk_gen]; omega)) ?_ ?_ <;> simp +decide only [w_lookup_nil, w_lookup_cons, ch_ch, ch_lit, lit_ch, wkT, wkH, wkB, WVL, WV_refl', Int.natCast_zero, Int.natCast_add, Int.natCast_one, Nat.sub_self, Nat.sub_zero, List.replicate_zero, List.take_zero, List.nil_append, List.append_nil, fillC_zero, Nat.reduceDiv, Nat.reduceAdd, upd_bk, bk_at, getB_zero, getB_succ, modB_zero, modB_succ, rows_lit, repB_zero, repB_succ, List.length_cons, List.length_nil, upd_upd_same, upd_apply, mk_tmp, mk_heap, mk_gen, lookupA, lookupH, List.getD_cons_zero, List.getD_cons_succ, init_two, tops, Bool.true_and, and_self, and_true, true_and, true_or, if_true, if_false, ite_true, ite_false, reduceCtorEq, reduceIte, es, c2, c1, Int.natCast_one]
    have hq1 : ¬ i % W = W - 1 := fun h => hq (.inl h)
    have klt : i + 1 < sv.length := by omega
    have hq2 : ¬ (sv.length : Int) ≤ ((i + 1 : Nat) : Int) := by omega
    have hsp := fun x y => adjS_right klt ilt hq1 x y
    by_cases hbad : sv[i] < 0 ∨ sv[i + 1] < 0 ∨ sv[i] = sv[i + 1]
    · have es : rowsQ (adjT sv W (2 * i + 1)) n = rowsQ (adjT sv W (2 * i)) n := rowsQ_congr fun x y _ _ => adjT_same (m := 2 * i) (fun x y => by rw [hsp]; omega) _ _
      rcases Classical.em (sv[i] < 0) with b1 | b1
      · simp (config := { maxSteps := 1000000 }) +decide only [NoH, Old, OldL, nilQ, nilA, RechL, ReY, isNew, stepO, XPost, postN, XOk, updN, updU, isEff, avalue, aeff, ASt.eval, ASt.put, ASt.set, ASt.new, Nat.reduceDiv, Nat.reduceAdd, Int.reduceToNat, absV, absC, scalar, alen, acap, conc, flats, live, blkOf, aload, rd, part?, afieldAddr, afield, aindexAddr, cellsOf, afill, places, abuild, optI, asliceV, asliceS, szOk, srcCells, aappend, astore, amakeSlice, abuildSlice, snapL, mapO, treeL, AVal.tree, AVal.flatT, isFlat, ares, isFz, afroz, afrozB, lookupA, lookupH, tops, if_true, if_false, reduceCtorEq, forall_const, ite_true, ite_false, implies_true, walkS, tabS, Try.results5, c0, v1, ilt, klt, hw, hmod, sem_rem, hW0, hw1, eq_false hq1, eq_false hq2, b1]
        refine ⟨⟨1, by omega⟩, ?_, by show 2 - 1 < 2 - 0; omega⟩
        refine weak_mk rfl (by first | exact Nat.le_refl _ | (simp only [mk_gen]; omega)) ?_ ?_ <;> simp +decide only [w_lookup_nil, w_lookup_cons, ch_ch, ch_lit, lit_ch, wkT, wkH, wkB, WVL, WV_refl', Int.natCast_zero, Int.natCast_add, Int.natCast_one, Nat.sub_self, Nat.sub_zero, List.replicate_zero, List.take_zero, List.nil_append, List.append_nil, fillC_zero, Nat.reduceDiv, Nat.reduceAdd, upd_bk, bk_at, getB_zero, getB_succ, modB_zero, modB_succ, rows_lit, repB_zero, repB_succ, List.length_cons, List.length_nil, upd_upd_same, upd_apply, mk_tmp, mk_heap, mk_gen, lookupA, lookupH, List.getD_cons_zero, List.getD_cons_succ, init_two, tops, Bool.true_and, and_self, and_true, true_and, true_or, if_true, if_false, ite_true, ite_false, reduceCtorEq, reduceIte, es, c2, c1, Int.natCast_one]
      rcases Classical.em (sv[i + 1] < 0) with b2 | b2
      · simp (config := { maxSteps := 1000000 }) +decide only [NoH, Old, OldL, nilQ, nilA, RechL, ReY, isNew, stepO, XPost, postN, XOk, updN, updU, isEff, avalue, aeff, ASt.eval, ASt.put, ASt.set, ASt.new, Nat.reduceDiv, Nat.reduceAdd, Int.reduceToNat, absV, absC, scalar, alen, acap, conc, flats, live, blkOf, aload, rd, part?, afieldAddr, afield, aindexAddr, cellsOf, afill, places, abuild, optI, asliceV, asliceS, szOk, srcCells, aappend, astore, amakeSlice, abuildSlice, snapL, mapO, treeL, AVal.tree, AVal.flatT, isFlat, ares, isFz, afroz, afrozB, lookupA, lookupH, tops, if_true, if_false, reduceCtorEq, forall_const, ite_true, ite_false, implies_true, walkS, tabS, Try.results5, c0, v1, ilt, klt, hw, hmod, sem_rem, hW0, hw1, eq_false hq1, eq_false hq2, b1, b2]
        refine ⟨⟨1, by omega⟩, ?_, by show 2 - 1 < 2 - 0; omega⟩
        refine weak_mk rfl (by first | exact Nat.le_refl _ | (simp only [mk_gen]; omega)) ?_ ?_ <;> simp +decide only [w_lookup_nil, w_lookup_cons, ch_ch, ch_lit, lit_ch, wkT, wkH, wkB, WVL, WV_refl', Int.natCast_zero, Int.natCast_add, Int.natCast_one, Nat.sub_self, Nat.sub_zero, List.replicate_zero, List.take_zero, List.nil_append, List.append_nil, fillC_zero, Nat.reduceDiv, Nat.reduceAdd, upd_bk, bk_at, getB_zero, getB_succ, modB_zero, modB_succ, rows_lit, repB_zero, repB_succ, List.length_cons, List.length_nil, upd_upd_same, upd_apply, mk_tmp, mk_heap, mk_gen, lookupA, lookupH, List.getD_cons_zero, List.getD_cons_succ, init_two, tops, Bool.true_and, and_self, and_true, true_and, true_or, if_true, if_false, ite_true, ite_false, reduceCtorEq, reduceIte, es, c2, c1, Int.natCast_one]
      have b3 : sv[i] = sv[i + 1] := by omega
      simp (config := { maxSteps := 1000000 }) +decide only [NoH, Old, OldL, nilQ, nilA, RechL, ReY, isNew, stepO, XPost, postN, XOk, updN, updU, isEff, avalue, aeff, ASt.eval, ASt.put, ASt.set, ASt.new, Nat.reduceDiv, Nat.reduceAdd, Int.reduceToNat, absV, absC, scalar, alen, acap, conc, flats, live, blkOf, aload, rd, part?, afieldAddr, afield, aindexAddr, cellsOf, afill, places, abuild, optI, asliceV, asliceS, szOk, srcCells, aappend, astore, amakeSlice, abuildSlice, snapL, mapO, treeL, AVal.tree, AVal.flatT, isFlat, ares, isFz, afroz, afrozB, lookupA, lookupH, tops, if_true, if_false, reduceCtorEq, forall_const, ite_true, ite_false, implies_true, walkS, tabS, Try.results5, c0, v1, ilt, klt, hw, hmod, sem_rem, hW0, hw1, eq_false hq1, eq_false hq2, b1, b2, eq_true b3]
      refine ⟨⟨1, by omega⟩, ?_, by show 2 - 1 < 2 - 0; omega⟩
      refine weak_mk rfl (by first | exact Nat.le_refl _ | (simp only [mk_gen]; omega)) ?_ ?_ <;> simp +decide only [w_lookup_nil, w_lookup_cons, ch_ch, ch_lit, lit_ch, wkT, wkH, wkB, WVL, WV_refl', Int.natCast_zero, Int.natCast_add, Int.natCast_one, Nat.sub_self, Nat.sub_zero, List.replicate_zero, List.take_zero, List.nil_append, List.append_nil, fillC_zero, Nat.reduceDiv, Nat.reduceAdd, upd_bk, bk_at, getB_zero, getB_succ, modB_zero, modB_succ, rows_lit, repB_zero, repB_succ, List.length_cons, List.length_nil, upd_upd_same, upd_apply, mk_tmp, mk_heap, mk_gen, lookupA, lookupH, List.getD_cons_zero, List.getD_cons_succ, init_two, tops, Bool.true_and, and_self, and_true, true_and, true_or, if_true, if_false, ite_true, ite_false, reduceCtorEq, reduceIte, es, c2, c1, Int.natCast_one]
    obtain ⟨x, ex1⟩ : ∃ x : Nat, sv[i] = x := ⟨sv[i].toNat, by omega⟩
    obtain ⟨y, ey1⟩ : ∃ y : Nat, sv[i + 1] = y := ⟨sv[i + 1].toNat, by omega⟩
    have hxn : x < n := by have := hsv i ilt; omega
    have hyn : y < n := by have := hsv (i + 1) klt; omega
    have hxy : x ≠ y := by omega
    have hx0 : ¬ (x : Int) < 0 := by omega
    have hy0 : ¬ (y : Int) < 0 := by omega
    have es : rowsQ (adjT sv W (2 * i + 1)) n = ((rowsQ (adjT sv W (2 * i)) n).set x (put (plK (adjT sv W (2 * i) x) n) y)).set y (put (plK (adjT sv W (2 * i) y) n) x) := by
      rw [rowsQ_put hxn hyn hxy]
      exact rowsQ_congr fun a b _ _ => adjT_add (m := 2 * i) (fun a b => by rw [hsp]; omega) _ _
    generalize hR : rowsQ (adjT sv W (2 * i)) n = R at es ⊢
    have rl1 : R.length = n := by rw [← hR]; exact rowsQ_length _ _
    have rx : x < R.length := by omega
    have ry : y < R.length := by omega
    have gx : R[x] = plK (adjT sv W (2 * i) x) n := by subst hR; exact rowsQ_get _ hxn
    have gy : R[y] = plK (adjT sv W (2 * i) y) n := by subst hR; exact rowsQ_get _ hyn
    clear hR
    generalize adjT sv W (2 * i) = Q at gx gy es ⊢
    have hlx := plK_le (Q x) n
    have hly := plK_le (Q y) n
    simp (config := { maxSteps := 1000000 }) +decide only [NoH, Old, OldL, nilQ, nilA, RechL, ReY, isNew, stepO, XPost, postN, XOk, updN, updU, isEff, avalue, aeff, ASt.eval, ASt.put, ASt.set, ASt.new, Nat.reduceDiv, Nat.reduceAdd, Int.reduceToNat, absV, absC, scalar, alen, acap, conc, flats, live, blkOf, aload, rd, part?, afieldAddr, afield, aindexAddr, cellsOf, afill, places, abuild, optI, asliceV, asliceS, szOk, srcCells, aappend, astore, amakeSlice, abuildSlice, snapL, mapO, treeL, AVal.tree, AVal.flatT, isFlat, ares, isFz, afroz, afrozB, lookupA, lookupH, tops, if_true, if_false, reduceCtorEq, forall_const, ite_true, ite_false, implies_true, walkS, tabS, Try.results5, c0, v1, ilt, klt, hw, hmod, sem_rem, hW0, hw1, eq_false hq1, eq_false hq2, ex1, ey1, hx0, hy0, hxy, hxn, hyn, rx, ry, gx, rl1]
    refine callK (den_l00Put (plK (Q x) n) y (by omega)) (by first | exact .inl rfl | exact .inr rfl) ?_
    have gy2 : (R.set x (put (plK (Q x) n) y))[y]'(by rw [List.length_set]; exact ry) = plK (Q y) n := by rw [List.getElem_set_ne hxy]; exact gy
    simp (config := { maxSteps := 1000000 }) +decide only [NoH, Old, OldL, nilQ, nilA, RechL, ReY, isNew, stepO, XPost, postN, XOk, updN, updU, isEff, avalue, aeff, ASt.eval, ASt.put, ASt.set, ASt.new, Nat.reduceDiv, Nat.reduceAdd, Int.reduceToNat, absV, absC, scalar, alen, acap, conc, flats, live, blkOf, aload, rd, part?, afieldAddr, afield, aindexAddr, cellsOf, afill, places, abuild, optI, asliceV, asliceS, szOk, srcCells, aappend, astore, amakeSlice, abuildSlice, snapL, mapO, treeL, AVal.tree, AVal.flatT, isFlat, ares, isFz, afroz, afrozB, lookupA, lookupH, tops, if_true, if_false, reduceCtorEq, forall_const, ite_true, ite_false, implies_true, walkS, tabS, Try.results5, c0, v1, ilt, klt, hw, hmod, sem_rem, hW0, hw1, eq_false hq1, eq_false hq2, ex1, ey1, hx0, hy0, hxy, rx, ry, hxn, hyn, gx, rl1, List.length_set, gy2]
    refine callK (den_l00Put (plK (Q y) n) x (by omega)) (by first | exact .inl rfl | exact .inr rfl) ?_
    simp (config := { maxSteps := 1000000 }) +decide only [NoH, Old, OldL, nilQ, nilA, RechL, ReY, isNew, stepO, XPost, postN, XOk, updN, updU, isEff, avalue, aeff, ASt.eval, ASt.put, ASt.set, ASt.new, Nat.reduceDiv, Nat.reduceAdd, Int.reduceToNat, absV, absC, scalar, alen, acap, conc, flats, live, blkOf, aload, rd, part?, afieldAddr, afield, aindexAddr, cellsOf, afill, places, abuild, optI, asliceV, asliceS, szOk, srcCells, aappend, astore, amakeSlice, abuildSlice, snapL, mapO, treeL, AVal.tree, AVal.flatT, isFlat, ares, isFz, afroz, afrozB, lookupA, lookupH, tops, if_true, if_false, reduceCtorEq, forall_const, ite_true, ite_false, implies_true, walkS, tabS, Try.results5, c0, v1, ilt, klt, hw, hmod, sem_rem, hW0, hw1, eq_false hq1, eq_false hq2, ex1, ey1, hx0, hy0, hxy, rx, ry, hxn, hyn, gx, rl1, List.length_set, gy2]
    refine ⟨⟨1, by omega⟩, ?_, by show 2 - 1 < 2 - 0; omega⟩
    refine weak_mk rfl (by first | exact Nat.le_refl _ | (simp only [mk_gen]; omega)) ?_ ?_ <;> simp +decide only [w_lookup_nil, w_lookup_cons, ch_ch, ch_lit, lit_ch, wkT, wkH, wkB, WVL, WV_refl', Int.natCast_zero, Int.natCast_add, Int.natCast_one, Nat.sub_self, Nat.sub_zero, List.replicate_zero, List.take_zero, List.nil_append, List.append_nil, fillC_zero, Nat.reduceDiv, Nat.reduceAdd, upd_bk, bk_at, getB_zero, getB_succ, modB_zero, modB_succ, rows_lit, repB_zero, repB_succ, List.length_cons, List.length_nil, upd_upd_same, upd_apply, mk_tmp, mk_heap, mk_gen, lookupA, lookupH, List.getD_cons_zero, List.getD_cons_succ, init_two, tops, Bool.true_and, and_self, and_true, true_and, true_or, if_true, if_false, ite_true, ite_false, reduceCtorEq, reduceIte, es, c2, c1, Int.natCast_one]
  · skip
    by_cases hq : ¬ i + W < sv.length
    · have es : rowsQ (adjT sv W (2 * i + 2)) n = rowsQ (adjT sv W (2 * i + 1)) n := rowsQ_congr fun x y _ _ => adjT_same (m := 2 * i + 1) (fun x y => adjS_low hq x y) _ _
      have hq2 : (sv.length : Int) ≤ ((i + W : Nat) : Int) := by omega
      simp (config := { maxSteps := 1000000 }) +decide only [NoH, Old, OldL, nilQ, nilA, RechL, ReY, isNew, stepO, XPost, postN, XOk, updN, updU, isEff, avalue, aeff, ASt.eval, ASt.put, ASt.set, ASt.new, Nat.reduceDiv, Nat.reduceAdd, Int.reduceToNat, absV, absC, scalar, alen, acap, conc, flats, live, blkOf, aload, rd, part?, afieldAddr, afield, aindexAddr, cellsOf, afill, places, abuild, optI, asliceV, asliceS, szOk, srcCells, aappend, astore, amakeSlice, abuildSlice, snapL, mapO, treeL, AVal.tree, AVal.flatT, isFlat, ares, isFz, afroz, afrozB, lookupA, lookupH, tops, if_true, if_false, reduceCtorEq, forall_const, ite_true, ite_false, implies_true, walkS, tabS, Try.results5, c1, v2, ilt, hw, hww, eq_true hq2]
      refine ⟨⟨2, by omega⟩, ?_, by show 2 - 2 < 2 - 1; omega⟩
      refine weak_mk rfl (by first | exact Nat.le_refl _ | (simp only [mk_gen]; omega)) ?_ ?_ <;> simp +decide only [w_lookup_nil, w_lookup_cons, ch_ch, ch_lit, lit_ch, wkT, wkH, wkB, WVL, WV_refl', Int.natCast_zero, Int.natCast_add, Int.natCast_one, Nat.sub_self, Nat.sub_zero, List.replicate_zero, List.take_zero, List.nil_append, List.append_nil, fillC_zero, Nat.reduceDiv, Nat.reduceAdd, upd_bk, bk_at, getB_zero, getB_succ, modB_zero, modB_succ, rows_lit, repB_zero, repB_succ, List.length_cons, List.length_nil, upd_upd_same, upd_apply, mk_tmp, mk_heap, mk_gen, lookupA, lookupH, List.getD_cons_zero, List.getD_cons_succ, init_two, tops, Bool.true_and, and_self, and_true, true_and, true_or, if_true, if_false, ite_true, ite_false, reduceCtorEq, reduceIte, es, c2, c1, Int.natCast_one]
    have klt : i + W < sv.length := by omega
    have hq2 : ¬ (sv.length : Int) ≤ ((i + W : Nat) : Int) := by omega
    have hsp := fun x y => adjS_down klt ilt x y
    by_cases hbad : sv[i] < 0 ∨ sv[i + W] < 0 ∨ sv[i] = sv[i + W]
    · have es : rowsQ (adjT sv W (2 * i + 2)) n = rowsQ (adjT sv W (2 * i + 1)) n := rowsQ_congr fun x y _ _ => adjT_same (m := 2 * i + 1) (fun x y => by rw [hsp]; omega) _ _
      rcases Classical.em (sv[i] < 0) with b1 | b1
      · simp (config := { maxSteps := 1000000 }) +decide only [NoH, Old, OldL, nilQ, nilA, RechL, ReY, isNew, stepO, XPost, postN, XOk, updN, updU, isEff, avalue, aeff, ASt.eval, ASt.put, ASt.set, ASt.new, Nat.reduceDiv, Nat.reduceAdd, Int.reduceToNat, absV, absC, scalar, alen, acap, conc, flats, live, blkOf, aload, rd, part?, afieldAddr, afield, aindexAddr, cellsOf, afill, places, abuild, optI, asliceV, asliceS, szOk, srcCells, aappend, astore, amakeSlice, abuildSlice, snapL, mapO, treeL, AVal.tree, AVal.flatT, isFlat, ares, isFz, afroz, afrozB, lookupA, lookupH, tops, if_true, if_false, reduceCtorEq, forall_const, ite_true, ite_false, implies_true, walkS, tabS, Try.results5, c1, v2, ilt, klt, hw, hww, eq_false hq2, b1]
        refine ⟨⟨2, by omega⟩, ?_, by show 2 - 2 < 2 - 1; omega⟩
        refine weak_mk rfl (by first | exact Nat.le_refl _ | (simp only [mk_gen]; omega)) ?_ ?_ <;> simp +decide only [w_lookup_nil, w_lookup_cons, ch_ch, ch_lit, lit_ch, wkT, wkH, wkB, WVL, WV_refl', Int.natCast_zero, Int.natCast_add, Int.natCast_one, Nat.sub_self, Nat.sub_zero, List.replicate_zero, List.take_zero, List.nil_append, List.append_nil, fillC_zero, Nat.reduceDiv, Nat.reduceAdd, upd_bk, bk_at, getB_zero, getB_succ, modB_zero, modB_succ, rows_lit, repB_zero, repB_succ, List.length_cons, List.length_nil, upd_upd_same, upd_apply, mk_tmp, mk_heap, mk_gen, lookupA, lookupH, List.getD_cons_zero, List.getD_cons_succ, init_two, tops, Bool.true_and, and_self, and_true, true_and, true_or, if_true, if_false, ite_true, ite_false, reduceCtorEq, reduceIte, es, c2, c1, Int.natCast_one]
      rcases Classical.em (sv[i + W] < 0) with b2 | b2
      · simp (config := { maxSteps := 1000000 }) +decide only [NoH, Old, OldL, nilQ, nilA, RechL, ReY, isNew, stepO, XPost, postN, XOk, updN, updU, isEff, avalue, aeff, ASt.eval, ASt.put, ASt.set, ASt.new, Nat.reduceDiv, Nat.reduceAdd, Int.reduceToNat, absV, absC, scalar, alen, acap, conc, flats, live, blkOf, aload, rd, part?, afieldAddr, afield, aindexAddr, cellsOf, afill, places, abuild, optI, asliceV, asliceS, szOk, srcCells, aappend, astore, amakeSlice, abuildSlice, snapL, mapO, treeL, AVal.tree, AVal.flatT, isFlat, ares, isFz, afroz, afrozB, lookupA, lookupH, tops, if_true, if_false, reduceCtorEq, forall_const, ite_true, ite_false, implies_true, walkS, tabS, Try.results5, c1, v2, ilt, klt, hw, hww, eq_false hq2, b1, b2]
        refine ⟨⟨2, by omega⟩, ?_, by show 2 - 2 < 2 - 1; omega⟩
        refine weak_mk rfl (by first | exact Nat.le_refl _ | (simp only [mk_gen]; omega)) ?_ ?_ <;> simp +decide only [w_lookup_nil, w_lookup_cons, ch_ch, ch_lit, lit_ch, wkT, wkH, wkB, WVL, WV_refl', Int.natCast_zero, Int.natCast_add, Int.natCast_one, Nat.sub_self, Nat.sub_zero, List.replicate_zero, List.take_zero, List.nil_append, List.append_nil, fillC_zero, Nat.reduceDiv, Nat.reduceAdd, upd_bk, bk_at, getB_zero, getB_succ, modB_zero, modB_succ, rows_lit, repB_zero, repB_succ, List.length_cons, List.length_nil, upd_upd_same, upd_apply, mk_tmp, mk_heap, mk_gen, lookupA, lookupH, List.getD_cons_zero, List.getD_cons_succ, init_two, tops, Bool.true_and, and_self, and_true, true_and, true_or, if_true, if_false, ite_true, ite_false, reduceCtorEq, reduceIte, es, c2, c1, Int.natCast_one]
      have b3 : sv[i] = sv[i + W] := by omega
      simp (config := { maxSteps := 1000000 }) +decide only [NoH, Old, OldL, nilQ, nilA, RechL, ReY, isNew, stepO, XPost, postN, XOk, updN, updU, isEff, avalue, aeff, ASt.eval, ASt.put, ASt.set, ASt.new, Nat.reduceDiv, Nat.reduceAdd, Int.reduceToNat, absV, absC, scalar, alen, acap, conc, flats, live, blkOf, aload, rd, part?, afieldAddr, afield, aindexAddr, cellsOf, afill, places, abuild, optI, asliceV, asliceS, szOk, srcCells, aappend, astore, amakeSlice, abuildSlice, snapL, mapO, treeL, AVal.tree, AVal.flatT, isFlat, ares, isFz, afroz, afrozB, lookupA, lookupH, tops, if_true, if_false, reduceCtorEq, forall_const, ite_true, ite_false, implies_true, walkS, tabS, Try.results5, c1, v2, ilt, klt, hw, hww, eq_false hq2, b1, b2, eq_true b3]
      refine ⟨⟨2, by omega⟩, ?_, by show 2 - 2 < 2 - 1; omega⟩
      refine weak_mk rfl (by first | exact Nat.le_refl _ | (simp only [mk_gen]; omega)) ?_ ?_ <;> simp +decide only [w_lookup_nil, w_lookup_cons, ch_ch, ch_lit, lit_ch, wkT, wkH, wkB, WVL, WV_refl', Int.natCast_zero, Int.natCast_add, Int.natCast_one, Nat.sub_self, Nat.sub_zero, List.replicate_zero, List.take_zero, List.nil_append, List.append_nil, fillC_zero, Nat.reduceDiv, Nat.reduceAdd, upd_bk, bk_at, getB_zero, getB_succ, modB_zero, modB_succ, rows_lit, repB_zero, repB_succ, List.length_cons, List.length_nil, upd_upd_same, upd_apply, mk_tmp, mk_heap, mk_gen, lookupA, lookupH, List.getD_cons_zero, List.getD_cons_succ, init_two, tops, Bool.true_and, and_self, and_true, true_and, true_or, if_true, if_false, ite_true, ite_false, reduceCtorEq, reduceIte, es, c2, c1, Int.natCast_one]
    obtain ⟨x, ex1⟩ : ∃ x : Nat, sv[i] = x := ⟨sv[i].toNat, by omega⟩
    obtain ⟨y, ey1⟩ : ∃ y : Nat, sv[i + W] = y := ⟨sv[i + W].toNat, by omega⟩
    have hxn : x < n := by have := hsv i ilt; omega
    have hyn : y < n := by have := hsv (i + W) klt; omega
    have hxy : x ≠ y := by omega
    have hx0 : ¬ (x : Int) < 0 := by omega
    have hy0 : ¬ (y : Int) < 0 := by omega
    have es : rowsQ (adjT sv W (2 * i + 2)) n = ((rowsQ (adjT sv W (2 * i + 1)) n).set x (put (plK (adjT sv W (2 * i + 1) x) n) y)).set y (put (plK (adjT sv W (2 * i + 1) y) n) x) := by
      rw [rowsQ_put hxn hyn hxy]
      exact rowsQ_congr fun a b _ _ => adjT_add (m := 2 * i + 1) (fun a b => by rw [hsp]; omega) _ _
    generalize hR : rowsQ (adjT sv W (2 * i + 1)) n = R at es ⊢
    have rl1 : R.length = n := by rw [← hR]; exact rowsQ_length _ _
    have rx : x < R.length := by omega
    have ry : y < R.length := by omega
    have gx : R[x] = plK (adjT sv W (2 * i + 1) x) n := by subst hR; exact rowsQ_get _ hxn
    have gy : R[y] = plK (adjT sv W (2 * i + 1) y) n := by subst hR; exact rowsQ_get _ hyn
    clear hR
    generalize adjT sv W (2 * i + 1) = Q at gx gy es ⊢
    have hlx := plK_le (Q x) n
    have hly := plK_le (Q y) n
    simp (config := { maxSteps := 1000000 }) +decide only [NoH, Old, OldL, nilQ, nilA, RechL, ReY, isNew, stepO, XPost, postN, XOk, updN, updU, isEff, avalue, aeff, ASt.eval, ASt.put, ASt.set, ASt.new, Nat.reduceDiv, Nat.reduceAdd, Int.reduceToNat, absV, absC, scalar, alen, acap, conc, flats, live, blkOf, aload, rd, part?, afieldAddr, afield, aindexAddr, cellsOf, afill, places, abuild, optI, asliceV, asliceS, szOk, srcCells, aappend, astore, amakeSlice, abuildSlice, snapL, mapO, treeL, AVal.tree, AVal.flatT, isFlat, ares, isFz, afroz, afrozB, lookupA, lookupH, tops, if_true, if_false, reduceCtorEq, forall_const, ite_true, ite_false, implies_true, walkS, tabS, Try.results5, c1, v2, ilt, klt, hw, hww, eq_false hq2, ex1, ey1, hx0, hy0, hxy, hxn, hyn, rx, ry, gx, rl1]
    refine callK (den_l00Put (plK (Q x) n) y (by omega)) (by first | exact .inl rfl | exact .inr rfl) ?_
    have gy2 : (R.set x (put (plK (Q x) n) y))[y]'(by rw [List.length_set]; exact ry) = plK (Q y) n := by rw [List.getElem_set_ne hxy]; exact gy
    simp (config := { maxSteps := 1000000 }) +decide only [NoH, Old, OldL, nilQ, nilA, RechL, ReY, isNew, stepO, XPost, postN, XOk, updN, updU, isEff, avalue, aeff, ASt.eval, ASt.put, ASt.set, ASt.new, Nat.reduceDiv, Nat.reduceAdd, Int.reduceToNat, absV, absC, scalar, alen, acap, conc, flats, live, blkOf, aload, rd, part?, afieldAddr, afield, aindexAddr, cellsOf, afill, places, abuild, optI, asliceV, asliceS, szOk, srcCells, aappend, astore, amakeSlice, abuildSlice, snapL, mapO, treeL, AVal.tree, AVal.flatT, isFlat, ares, isFz, afroz, afrozB, lookupA, lookupH, tops, if_true, if_false, reduceCtorEq, forall_const, ite_true, ite_false, implies_true, walkS, tabS, Try.results5, c1, v2, ilt, klt, hw, hww, eq_false hq2, ex1, ey1, hx0, hy0, hxy, rx, ry, hxn, hyn, gx, rl1, List.length_set, gy2]
    refine callK (den_l00Put (plK (Q y) n) x (by omega)) (by first | exact .inl rfl | exact .inr rfl) ?_
    simp (config := { maxSteps := 1000000 }) +decide only [NoH, Old, OldL, nilQ, nilA, RechL, ReY, isNew, stepO, XPost, postN, XOk, updN, updU, isEff, avalue, aeff, ASt.eval, ASt.put, ASt.set, ASt.new, Nat.reduceDiv, Nat.reduceAdd, Int.reduceToNat, absV, absC, scalar, alen, acap, conc, flats, live, blkOf, aload, rd, part?, afieldAddr, afield, aindexAddr, cellsOf, afill, places, abuild, optI, asliceV, asliceS, szOk, srcCells, aappend, astore, amakeSlice, abuildSlice, snapL, mapO, treeL, AVal.tree, AVal.flatT, isFlat, ares, isFz, afroz, afrozB, lookupA, lookupH, tops, if_true, if_false, reduceCtorEq, forall_const, ite_true, ite_false, implies_true, walkS, tabS, Try.results5, c1, v2, ilt, klt, hw, hww, eq_false hq2, ex1, ey1, hx0, hy0, hxy, rx, ry, hxn, hyn, gx, rl1, List.length_set, gy2]
    refine ⟨⟨2, by omega⟩, ?_, by show 2 - 2 < 2 - 1; omega⟩
    refine weak_mk rfl (by first | exact Nat.le_refl _ | (simp only [mk_gen]; omega)) ?_ ?_ <;> simp +decide only [w_lookup_nil, w_lookup_cons, ch_ch, ch_lit, lit_ch, wkT, wkH, wkB, WVL, WV_refl', Int.natCast_zero, Int.natCast_add, Int.natCast_one, Nat.sub_self, Nat.sub_zero, List.replicate_zero, List.take_zero, List.nil_append, List.append_nil, fillC_zero, Nat.reduceDiv, Nat.reduceAdd, upd_bk, bk_at, getB_zero, getB_succ, modB_zero, modB_succ, rows_lit, repB_zero, repB_succ, List.length_cons, List.length_nil, upd_upd_same, upd_apply, mk_tmp, mk_heap, mk_gen, lookupA, lookupH, List.getD_cons_zero, List.getD_cons_succ, init_two, tops, Bool.true_and, and_self, and_true, true_and, true_or, if_true, if_false, ite_true, ite_false, reduceCtorEq, reduceIte, es, c2, c1, Int.natCast_one]
  · have e2 : 2 * i + 2 = 2 * (i + 1) := by omega
    simp (config := { maxSteps := 1000000 }) +decide only [NoH, Old, OldL, nilQ, nilA, RechL, ReY, isNew, stepO, XPost, postN, XOk, updN, updU, isEff, avalue, aeff, ASt.eval, ASt.put, ASt.set, ASt.new, Nat.reduceDiv, Nat.reduceAdd, Int.reduceToNat, absV, absC, scalar, alen, acap, conc, flats, live, blkOf, aload, rd, part?, afieldAddr, afield, aindexAddr, cellsOf, afill, places, abuild, optI, asliceV, asliceS, szOk, srcCells, aappend, astore, amakeSlice, abuildSlice, snapL, mapO, treeL, AVal.tree, AVal.flatT, isFlat, ares, isFz, afroz, afrozB, lookupA, lookupH, tops, if_true, if_false, reduceCtorEq, forall_const, ite_true, ite_false, implies_true, walkS, tabS, Try.results5, c2, ilt, hw, e2]
    refine ⟨⟨i + 1, ilt⟩, ?_, by show _ - (i + 1) < _ - i; omega⟩
    refine weak_mk rfl (by first | exact Nat.le_refl _ | (simp only [mk_gen]; omega)) ?_ ?_ <;> simp +decide only [w_lookup_nil, w_lookup_cons, ch_ch, ch_lit, lit_ch, wkT, wkH, wkB, WVL, WV_refl', Int.natCast_zero, Int.natCast_add, Int.natCast_one, Nat.sub_self, Nat.sub_zero, List.replicate_zero, List.take_zero, List.nil_append, List.append_nil, fillC_zero, Nat.reduceDiv, Nat.reduceAdd, upd_bk, bk_at, getB_zero, getB_succ, modB_zero, modB_succ, rows_lit, repB_zero, repB_succ, List.length_cons, List.length_nil, upd_upd_same, upd_apply, mk_tmp, mk_heap, mk_gen, lookupA, lookupH, List.getD_cons_zero, List.getD_cons_succ, init_two, tops, Bool.true_and, and_self, and_true, true_and, true_or, if_true, if_false, ite_true, ite_false, reduceCtorEq, reduceIte, e2]
end Go.Proofs.Ytlcijhpjbkekpaa
