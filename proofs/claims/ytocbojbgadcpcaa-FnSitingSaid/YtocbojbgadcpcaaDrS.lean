/-
  OWN WORK: the laws' problem of siting: one of many.
-/
import Derived.Test.YtocbojbgadcpcaaSrcY
import Derived.Test.YtocbojbgadcpcaaSiB
namespace Go.Proofs.Ytocbojbgadcpcaa
open Go Go.Own Go.Proofs
set_option maxHeartbeats 4000000
set_option maxRecDepth 20000
set_option linter.unusedSimpArgs false
/-- a problem as the laws draw it -/
structure SitD (ws : List Int) (cv : List (List Int)) (cs : List Int) : Prop where
  ok : OkSit ws cv cs
  few : cv.length ≤ 6
theorem rises_snoc {lo hi : Int} {xs : List Int} {x : Int} (h : Rises lo hi xs) (h1 : lo ≤ x) (h2 : x ≤ hi) (h3 : ∀ y ∈ xs, y < x) : Rises lo hi (xs ++ [x]) := by
  intro i hi
  by_cases e : i < xs.length
  · have := h i e
    rw [List.getElem_append_left e]
    refine ⟨this.1, fun h0 => ?_⟩
    rw [List.getElem_append_left (by omega)]
    exact this.2 h0
  · have e2 : i = xs.length := by simp at hi; omega
    subst e2
    have ex : (xs ++ [x])[xs.length] = x := by simp
    rw [ex]
    refine ⟨⟨h1, h2⟩, fun h0 => ?_⟩
    rw [List.getElem_append_left (by omega)]
    exact h3 _ (List.getElem_mem _)
theorem mapC_lit {α : Type} (f : α → AVal) (x : α) (l : List α) : mapC f (x :: l) = f x :: mapC f l := rfl
theorem deny_l22Draw {bs : List Int} (hb : Byt bs) (s : SrcS) (hs : s.1 ≤ 1000000) : DenY Try.prog 21 [srcX bs s] (fun i : SrcS × List Int × List (List Int) × List Int => SitD i.2.1 i.2.2.1 i.2.2.2) (fun i => [srcX bs i.1]) (fun i => .v (sitV i.2.1 i.2.2.1 i.2.2.2)) := by
  refine denY_of_awpG (ghs [] [19, 21, 43, 48, 54, 56]) Try.func21 rfl (by kernel_rfl) (Nat.le_of_ble_eq_true rfl) (by simp +decide only [w_embA_nil, w_embA_cons, w_emb_v, w_emb_ol, w_emb_op, w_emb_agg, w_emb_tup, w_embL_nil, w_embL_cons, embL_i, List.map_cons, List.map_nil, List.nil_append, List.append_nil, List.cons_append, List.nodup_cons, List.nodup_nil, List.mem_cons, List.mem_nil_iff, List.not_mem_nil, ch_ch, ch_lit, lit_ch, Nat.reduceAdd]) mixed (by kernel_rfl) fun hl => ?_
  simp only [xlensL, xlens, lensL, lens, lensL_i, lensL_mapC, xlensL_i, maxI, and_true, true_and] at hl
  rw [Try.ntmps21]
  refine ex_start ?_
  simp (config := { maxSteps := 1000000 }) +decide only [NoH, Old, OldL, nilQ, nilA, RechL, ReY, isNew, stepO, XPost, postN, XOk, updN, updU, isEff, avalue, aeff, ASt.eval, ASt.put, ASt.set, ASt.new, Nat.reduceDiv, Nat.reduceAdd, Int.reduceToNat, absV, absC, scalar, alen, acap, conc, flats, live, blkOf, aload, rd, part?, afieldAddr, afield, aindexAddr, cellsOf, afill, places, abuild, optI, asliceV, asliceS, szOk, srcCells, aappend, astore, amakeSlice, abuildSlice, snapL, mapO, treeL, AVal.tree, AVal.flatT, isFlat, ares, isFz, afroz, afrozB, lookupA, lookupH, tops, if_true, if_false, reduceCtorEq, forall_const, ite_true, ite_false, implies_true, walkS, tabS, Try.results21]
  refine callY (deny_pick hb 9 s (by omega)) (by simp (config := { maxSteps := 1000000 }) +decide only [NoH, Old, OldL, nilQ, nilA, RechL, ReY, isNew, stepO, XPost, postN, XOk, updN, updU, isEff, avalue, aeff, ASt.eval, ASt.put, ASt.set, ASt.new, Nat.reduceDiv, Nat.reduceAdd, Int.reduceToNat, absV, absC, scalar, alen, acap, conc, flats, live, blkOf, aload, rd, part?, afieldAddr, afield, aindexAddr, cellsOf, afill, places, abuild, optI, asliceV, asliceS, szOk, srcCells, aappend, astore, amakeSlice, abuildSlice, snapL, mapO, treeL, AVal.tree, AVal.flatT, isFlat, ares, isFz, afroz, afrozB, lookupA, lookupH, tops, if_true, if_false, reduceCtorEq, forall_const, ite_true, ite_false, implies_true, walkS, tabS, Try.results21]) (fun i hi => by simp (config := { maxSteps := 1000000 }) +decide only [NoH, Old, OldL, nilQ, nilA, RechL, ReY, isNew, stepO, XPost, postN, XOk, updN, updU, isEff, avalue, aeff, ASt.eval, ASt.put, ASt.set, ASt.new, Nat.reduceDiv, Nat.reduceAdd, Int.reduceToNat, absV, absC, scalar, alen, acap, conc, flats, live, blkOf, aload, rd, part?, afieldAddr, afield, aindexAddr, cellsOf, afill, places, abuild, optI, asliceV, asliceS, szOk, srcCells, aappend, astore, amakeSlice, abuildSlice, snapL, mapO, treeL, AVal.tree, AVal.flatT, isFlat, ares, isFz, afroz, afrozB, lookupA, lookupH, tops, if_true, if_false, reduceCtorEq, forall_const, ite_true, ite_false, implies_true, walkS, tabS, Try.results21]) ?_
  rintro ⟨s1, n⟩ ⟨h1, h2, h3⟩
  have h1' : s1.1 ≤ s.1 + 2 := h1
  have h2' : 0 ≤ n := h2
  have h3' : n < 9 := h3 (by omega)
  obtain ⟨m, rfl⟩ : ∃ m : Nat, n = m := ⟨n.toNat, by omega⟩
  have hw : IntKind.i64.wrap (1 + (m : Int)) = ((1 + m : Nat) : Int) := wrap64 (by omega) (by omega)
  simp (config := { maxSteps := 1000000 }) +decide only [NoH, Old, OldL, nilQ, nilA, RechL, ReY, isNew, stepO, XPost, postN, XOk, updN, updU, isEff, avalue, aeff, ASt.eval, ASt.put, ASt.set, ASt.new, Nat.reduceDiv, Nat.reduceAdd, Int.reduceToNat, absV, absC, scalar, alen, acap, conc, flats, live, blkOf, aload, rd, part?, afieldAddr, afield, aindexAddr, cellsOf, afill, places, abuild, optI, asliceV, asliceS, szOk, srcCells, aappend, astore, amakeSlice, abuildSlice, snapL, mapO, treeL, AVal.tree, AVal.flatT, isFlat, ares, isFz, afroz, afrozB, lookupA, lookupH, tops, if_true, if_false, reduceCtorEq, forall_const, ite_true, ite_false, implies_true, walkS, tabS, Try.results21, hw]
  refine ex_loop (fun p : {p : Nat × SrcS × List Int × Nat × Nat // 1 ≤ p.2.2.1.length + p.1 ∧ p.2.2.1.length + p.1 ≤ 9 ∧ p.2.1.1 + 2 * p.1 ≤ s.1 + 20 ∧ ∀ x ∈ p.2.2.1, 0 ≤ x ∧ x ≤ 1000000} => mkG (ghs [] [19, 21, 43, 48, 54, 56]) [(0, .ptr 0 0 0), (2, .ptr 2 1 0), (3, .ptr 3 2 0), (4, .i p.1.1)] [(0, ⟨0, 3, [bytesV bs, .i p.1.2.1.1, .u64 p.1.2.1.2]⟩), (2, ⟨1, 3, [.nl, .nl, .nl]⟩), (3, ⟨2, 3, [.own 22 p.1.2.2.2.1 0 p.1.2.2.1.length, .nl, .nl]⟩), (22, ⟨p.1.2.2.2.1, 1, mapC AVal.i p.1.2.2.1⟩)] p.1.2.2.2.2 60) (fun p => p.1.1) ⟨(1 + m, s1, [], 4, 5), by show 1 ≤ 0 + (1 + m); omega, by show 0 + (1 + m) ≤ 9; omega, by show s1.1 + 2 * (1 + m) ≤ _; omega, by simp⟩ ?_ ?_
  · refine weak_mk rfl (by first | exact Nat.le_refl _ | (simp only [mk_gen]; omega)) ?_ ?_ <;> simp +decide only [w_lookup_nil, w_lookup_cons, ch_ch, ch_lit, lit_ch, wkT, wkH, wkB, WVL, WV_refl', Int.natCast_zero, Int.natCast_add, Int.natCast_one, Nat.sub_self, Nat.sub_zero, List.replicate_zero, List.take_zero, List.nil_append, List.append_nil, fillC_zero, Nat.reduceDiv, Nat.reduceAdd, upd_bk, bk_at, getB_zero, getB_succ, modB_zero, modB_succ, rows_lit, repB_zero, repB_succ, List.length_cons, List.length_nil, upd_upd_same, upd_apply, mk_tmp, mk_heap, mk_gen, lookupA, lookupH, List.getD_cons_zero, List.getD_cons_succ, init_two, tops, Bool.true_and, and_self, and_true, true_and, true_or, if_true, if_false, ite_true, ite_false, reduceCtorEq, reduceIte, mapC_nil, List.length_nil]
    exact .inr (WV_nl (blk := ⟨4, 1, []⟩) rfl rfl rfl rfl)
  rintro ⟨⟨c, s2, ws, g, G⟩, k1, k2, k3, k4⟩
  have k1' : 1 ≤ ws.length + c := k1
  have k2' : ws.length + c ≤ 9 := k2
  have k3' : s2.1 + 2 * c ≤ s.1 + 20 := k3
  have k4' : ∀ x ∈ ws, 0 ≤ x ∧ x ≤ 1000000 := k4
  by_cases hc : 0 < c
  case pos =>
    have hcI : (0 : Int) < (c : Int) := by omega
    have hw : IntKind.i64.wrap ((c : Int) - 1) = ((c - 1 : Nat) : Int) := (wrap64 (by omega) (by omega)).trans (by omega)
    have h8 : (ws.length + 1) * 8 ≤ 140737488355328 := by omega
    have tk : ws.take ws.length = ws := List.take_length
    simp (config := { maxSteps := 1000000 }) +decide only [NoH, Old, OldL, nilQ, nilA, RechL, ReY, isNew, stepO, XPost, postN, XOk, updN, updU, isEff, avalue, aeff, ASt.eval, ASt.put, ASt.set, ASt.new, Nat.reduceDiv, Nat.reduceAdd, Int.reduceToNat, absV, absC, scalar, alen, acap, conc, flats, live, blkOf, aload, rd, part?, afieldAddr, afield, aindexAddr, cellsOf, afill, places, abuild, optI, asliceV, asliceS, szOk, srcCells, aappend, astore, amakeSlice, abuildSlice, snapL, mapO, treeL, AVal.tree, AVal.flatT, isFlat, ares, isFz, afroz, afrozB, lookupA, lookupH, tops, if_true, if_false, reduceCtorEq, forall_const, ite_true, ite_false, implies_true, walkS, tabS, Try.results21, eq_true hcI, hw, List.replicate_succ, List.flatten_cons, List.flatten_nil]
    refine callX (denx_among hb [0, 1, 1, 2, 5, 10, 100, 1000000] (by simp) 8 rfl s2 (by omega)) (by simp (config := { maxSteps := 1000000 }) +decide only [NoH, Old, OldL, nilQ, nilA, RechL, ReY, isNew, stepO, XPost, postN, XOk, updN, updU, isEff, avalue, aeff, ASt.eval, ASt.put, ASt.set, ASt.new, Nat.reduceDiv, Nat.reduceAdd, Int.reduceToNat, absV, absC, scalar, alen, acap, conc, flats, live, blkOf, aload, rd, part?, afieldAddr, afield, aindexAddr, cellsOf, afill, places, abuild, optI, asliceV, asliceS, szOk, srcCells, aappend, astore, amakeSlice, abuildSlice, snapL, mapO, treeL, AVal.tree, AVal.flatT, isFlat, ares, isFz, afroz, afrozB, lookupA, lookupH, tops, if_true, if_false, reduceCtorEq, forall_const, ite_true, ite_false, implies_true, walkS, tabS, Try.results21, mapC_lit, mapC_nil]) ?_
    have e1 := pkS_le bs 8 s2
    have e2 := amV_mem hb (L := [0, 1, 1, 2, 5, 10, 100, 1000000]) (by simp) s2
    generalize amV bs [0, 1, 1, 2, 5, 10, 100, 1000000] s2 = v at e2 ⊢
    generalize pkS bs 8 s2 = s3 at e1 ⊢
    simp (config := { maxSteps := 1000000 }) +decide only [NoH, Old, OldL, nilQ, nilA, RechL, ReY, isNew, stepO, XPost, postN, XOk, updN, updU, isEff, avalue, aeff, ASt.eval, ASt.put, ASt.set, ASt.new, Nat.reduceDiv, Nat.reduceAdd, Int.reduceToNat, absV, absC, scalar, alen, acap, conc, flats, live, blkOf, aload, rd, part?, afieldAddr, afield, aindexAddr, cellsOf, afill, places, abuild, optI, asliceV, asliceS, szOk, srcCells, aappend, astore, amakeSlice, abuildSlice, snapL, mapO, treeL, AVal.tree, AVal.flatT, isFlat, ares, isFz, afroz, afrozB, lookupA, lookupH, tops, if_true, if_false, reduceCtorEq, forall_const, ite_true, ite_false, implies_true, walkS, tabS, Try.results21, eq_true hcI, hw, h8, tk, List.replicate_succ, List.flatten_cons, List.flatten_nil, mapC_snoc]
    refine ⟨⟨(c - 1, s3, ws ++ [v], G + 1, G + 2), by simp; omega, by simp; omega, by show s3.1 + 2 * (c - 1) ≤ _; omega, fun x hx => ?_⟩, ?_, by show c - 1 < c; omega⟩
    · rcases List.mem_append.1 hx with hx | hx
      · exact k4' x hx
      · simp only [List.mem_singleton] at hx
        subst hx
        simp only [List.mem_cons, List.not_mem_nil, or_false] at e2
        omega
    · refine weak_mk rfl (by first | exact Nat.le_refl _ | (simp only [mk_gen]; omega)) ?_ ?_ <;> simp +decide only [w_lookup_nil, w_lookup_cons, ch_ch, ch_lit, lit_ch, wkT, wkH, wkB, WVL, WV_refl', Int.natCast_zero, Int.natCast_add, Int.natCast_one, Nat.sub_self, Nat.sub_zero, List.replicate_zero, List.take_zero, List.nil_append, List.append_nil, fillC_zero, Nat.reduceDiv, Nat.reduceAdd, upd_bk, bk_at, getB_zero, getB_succ, modB_zero, modB_succ, rows_lit, repB_zero, repB_succ, List.length_cons, List.length_nil, upd_upd_same, upd_apply, mk_tmp, mk_heap, mk_gen, lookupA, lookupH, List.getD_cons_zero, List.getD_cons_succ, init_two, tops, Bool.true_and, and_self, and_true, true_and, true_or, if_true, if_false, ite_true, ite_false, reduceCtorEq, reduceIte, List.length_append, List.length_cons, List.length_nil, Nat.zero_add]
  have hcI : ¬ (0 : Int) < (c : Int) := by omega
  simp (config := { maxSteps := 1000000 }) +decide only [NoH, Old, OldL, nilQ, nilA, RechL, ReY, isNew, stepO, XPost, postN, XOk, updN, updU, isEff, avalue, aeff, ASt.eval, ASt.put, ASt.set, ASt.new, Nat.reduceDiv, Nat.reduceAdd, Int.reduceToNat, absV, absC, scalar, alen, acap, conc, flats, live, blkOf, aload, rd, part?, afieldAddr, afield, aindexAddr, cellsOf, afill, places, abuild, optI, asliceV, asliceS, szOk, srcCells, aappend, astore, amakeSlice, abuildSlice, snapL, mapO, treeL, AVal.tree, AVal.flatT, isFlat, ares, isFz, afroz, afrozB, lookupA, lookupH, tops, if_true, if_false, reduceCtorEq, forall_const, ite_true, ite_false, implies_true, walkS, tabS, Try.results21, eq_false hcI]
  have hws : 1 ≤ ws.length ∧ ws.length ≤ 9 := by omega
  refine callY (deny_pick hb 6 s2 (by omega)) (by simp (config := { maxSteps := 1000000 }) +decide only [NoH, Old, OldL, nilQ, nilA, RechL, ReY, isNew, stepO, XPost, postN, XOk, updN, updU, isEff, avalue, aeff, ASt.eval, ASt.put, ASt.set, ASt.new, Nat.reduceDiv, Nat.reduceAdd, Int.reduceToNat, absV, absC, scalar, alen, acap, conc, flats, live, blkOf, aload, rd, part?, afieldAddr, afield, aindexAddr, cellsOf, afill, places, abuild, optI, asliceV, asliceS, szOk, srcCells, aappend, astore, amakeSlice, abuildSlice, snapL, mapO, treeL, AVal.tree, AVal.flatT, isFlat, ares, isFz, afroz, afrozB, lookupA, lookupH, tops, if_true, if_false, reduceCtorEq, forall_const, ite_true, ite_false, implies_true, walkS, tabS, Try.results21]) (fun i hi => by simp (config := { maxSteps := 1000000 }) +decide only [NoH, Old, OldL, nilQ, nilA, RechL, ReY, isNew, stepO, XPost, postN, XOk, updN, updU, isEff, avalue, aeff, ASt.eval, ASt.put, ASt.set, ASt.new, Nat.reduceDiv, Nat.reduceAdd, Int.reduceToNat, absV, absC, scalar, alen, acap, conc, flats, live, blkOf, aload, rd, part?, afieldAddr, afield, aindexAddr, cellsOf, afill, places, abuild, optI, asliceV, asliceS, szOk, srcCells, aappend, astore, amakeSlice, abuildSlice, snapL, mapO, treeL, AVal.tree, AVal.flatT, isFlat, ares, isFz, afroz, afrozB, lookupA, lookupH, tops, if_true, if_false, reduceCtorEq, forall_const, ite_true, ite_false, implies_true, walkS, tabS, Try.results21]) ?_
  rintro ⟨s3, n⟩ ⟨j1, j2, j3⟩
  have j1' : s3.1 ≤ s2.1 + 2 := j1
  have j2' : 0 ≤ n := j2
  have j3' : n < 6 := j3 (by omega)
  obtain ⟨m, rfl⟩ : ∃ m : Nat, n = m := ⟨n.toNat, by omega⟩
  have hw : IntKind.i64.wrap (1 + (m : Int)) = ((1 + m : Nat) : Int) := wrap64 (by omega) (by omega)
  simp (config := { maxSteps := 1000000 }) +decide only [NoH, Old, OldL, nilQ, nilA, RechL, ReY, isNew, stepO, XPost, postN, XOk, updN, updU, isEff, avalue, aeff, ASt.eval, ASt.put, ASt.set, ASt.new, Nat.reduceDiv, Nat.reduceAdd, Int.reduceToNat, absV, absC, scalar, alen, acap, conc, flats, live, blkOf, aload, rd, part?, afieldAddr, afield, aindexAddr, cellsOf, afill, places, abuild, optI, asliceV, asliceS, szOk, srcCells, aappend, astore, amakeSlice, abuildSlice, snapL, mapO, treeL, AVal.tree, AVal.flatT, isFlat, ares, isFz, afroz, afrozB, lookupA, lookupH, tops, if_true, if_false, reduceCtorEq, forall_const, ite_true, ite_false, implies_true, walkS, tabS, Try.results21, hw]
  refine ex_loop (fun p : {p : Nat × SrcS × List (List Int) × List Int × Nat × Nat × Nat // 1 ≤ p.2.2.1.length + p.1 ∧ p.2.2.1.length + p.1 ≤ 6 ∧ p.2.1.1 + 100 * p.1 ≤ s.1 + 1000 ∧ p.2.2.2.1.length = p.2.2.1.length ∧ (∀ (i : Nat) (h : i < p.2.2.1.length), Rises 0 (ws.length - 1) p.2.2.1[i]) ∧ ∀ x ∈ p.2.2.2.1, 1 ≤ x ∧ x ≤ 1000} => mkG (ghs [] [19, 21, 43, 48, 54, 56]) [(0, .ptr 0 0 0), (2, .ptr 2 1 0), (3, .ptr 3 2 0), (5, .i p.1.1)] [(0, ⟨0, 3, [bytesV bs, .i p.1.2.1.1, .u64 p.1.2.1.2]⟩), (2, ⟨1, 3, [.nl, .nl, .nl]⟩), (3, ⟨2, 3, [.own 22 g 0 ws.length, .own 49 p.1.2.2.2.2.1 0 p.1.2.2.1.length, .own 57 p.1.2.2.2.2.2.1 0 p.1.2.2.2.1.length]⟩), (22, ⟨g, 1, mapC AVal.i ws⟩), (49, ⟨p.1.2.2.2.2.1, 1, mapC ints p.1.2.2.1⟩), (57, ⟨p.1.2.2.2.2.2.1, 1, mapC AVal.i p.1.2.2.2.1⟩)] p.1.2.2.2.2.2.2 60) (fun p => p.1.1) ⟨(1 + m, s3, [], [], G + 1, G + 2, G + 3), by show 1 ≤ 0 + (1 + m); omega, by show 0 + (1 + m) ≤ 6; omega, by show s3.1 + 100 * (1 + m) ≤ _; omega, rfl, by simp, by simp⟩ ?_ ?_
  · refine weak_mk rfl (by first | exact Nat.le_refl _ | (simp only [mk_gen]; omega)) ?_ ?_ <;> simp +decide only [w_lookup_nil, w_lookup_cons, ch_ch, ch_lit, lit_ch, wkT, wkH, wkB, WVL, WV_refl', Int.natCast_zero, Int.natCast_add, Int.natCast_one, Nat.sub_self, Nat.sub_zero, List.replicate_zero, List.take_zero, List.nil_append, List.append_nil, fillC_zero, Nat.reduceDiv, Nat.reduceAdd, upd_bk, bk_at, getB_zero, getB_succ, modB_zero, modB_succ, rows_lit, repB_zero, repB_succ, List.length_cons, List.length_nil, upd_upd_same, upd_apply, mk_tmp, mk_heap, mk_gen, lookupA, lookupH, List.getD_cons_zero, List.getD_cons_succ, init_two, tops, Bool.true_and, and_self, and_true, true_and, true_or, if_true, if_false, ite_true, ite_false, reduceCtorEq, reduceIte, mapC_nil, List.length_nil]
    refine ⟨.inr ⟨WV_nl (blk := ⟨G + 1, 1, []⟩) rfl rfl rfl rfl, WV_nl (blk := ⟨G + 2, 1, []⟩) rfl rfl rfl rfl⟩, ?_⟩
    omega
  rintro ⟨⟨c, s4, cv, cs, g1, g2, G⟩, q1, q2, q3, q4, q5, q6⟩
  have q1' : 1 ≤ cv.length + c := q1
  have q2' : cv.length + c ≤ 6 := q2
  have q3' : s4.1 + 100 * c ≤ s.1 + 1000 := q3
  have q4' : cs.length = cv.length := q4
  have q5' : ∀ (i : Nat) (h : i < cv.length), Rises 0 (ws.length - 1) cv[i] := q5
  have q6' : ∀ x ∈ cs, 1 ≤ x ∧ x ≤ 1000 := q6
  by_cases hc : 0 < c
  case neg =>
    have hcI : ¬ (0 : Int) < (c : Int) := by omega
    have t1 : ws.take ws.length = ws := List.take_length
    have t2 : cv.take cv.length = cv := List.take_length
    have t3 : cs.take cs.length = cs := List.take_length
    simp (config := { maxSteps := 1000000 }) +decide only [NoH, Old, OldL, nilQ, nilA, RechL, ReY, isNew, stepO, XPost, postN, XOk, updN, updU, isEff, avalue, aeff, ASt.eval, ASt.put, ASt.set, ASt.new, Nat.reduceDiv, Nat.reduceAdd, Int.reduceToNat, absV, absC, scalar, alen, acap, conc, flats, live, blkOf, aload, rd, part?, afieldAddr, afield, aindexAddr, cellsOf, afill, places, abuild, optI, asliceV, asliceS, szOk, srcCells, aappend, astore, amakeSlice, abuildSlice, snapL, mapO, treeL, AVal.tree, AVal.flatT, isFlat, ares, isFz, afroz, afrozB, lookupA, lookupH, tops, if_true, if_false, reduceCtorEq, forall_const, ite_true, ite_false, implies_true, walkS, tabS, Try.results21, eq_false hcI]
    have hD : SitD ws cv cs := ⟨⟨hws.1, by omega, by omega, by omega, q4', fun i h => k4' _ (List.getElem_mem h), q5', fun i h => q6' _ (List.getElem_mem h)⟩, by omega⟩
    refine yret (s4, ws, cv, cs) hD ?_
    simp (config := { maxSteps := 1000000 }) +decide only [NoH, Old, OldL, nilQ, nilA, RechL, ReY, isNew, stepO, XPost, postN, XOk, updN, updU, isEff, avalue, aeff, ASt.eval, ASt.put, ASt.set, ASt.new, Nat.reduceDiv, Nat.reduceAdd, Int.reduceToNat, absV, absC, scalar, alen, acap, conc, flats, live, blkOf, aload, rd, part?, afieldAddr, afield, aindexAddr, cellsOf, afill, places, abuild, optI, asliceV, asliceS, szOk, srcCells, aappend, astore, amakeSlice, abuildSlice, snapL, mapO, treeL, AVal.tree, AVal.flatT, isFlat, ares, isFz, afroz, afrozB, lookupA, lookupH, tops, if_true, if_false, reduceCtorEq, forall_const, ite_true, ite_false, implies_true, walkS, tabS, Try.results21]
  have hcI : (0 : Int) < (c : Int) := by omega
  have hw : IntKind.i64.wrap ((c : Int) - 1) = ((c - 1 : Nat) : Int) := (wrap64 (by omega) (by omega)).trans (by omega)
  simp (config := { maxSteps := 1000000 }) +decide only [NoH, Old, OldL, nilQ, nilA, RechL, ReY, isNew, stepO, XPost, postN, XOk, updN, updU, isEff, avalue, aeff, ASt.eval, ASt.put, ASt.set, ASt.new, Nat.reduceDiv, Nat.reduceAdd, Int.reduceToNat, absV, absC, scalar, alen, acap, conc, flats, live, blkOf, aload, rd, part?, afieldAddr, afield, aindexAddr, cellsOf, afill, places, abuild, optI, asliceV, asliceS, szOk, srcCells, aappend, astore, amakeSlice, abuildSlice, snapL, mapO, treeL, AVal.tree, AVal.flatT, isFlat, ares, isFz, afroz, afrozB, lookupA, lookupH, tops, if_true, if_false, reduceCtorEq, forall_const, ite_true, ite_false, implies_true, walkS, tabS, Try.results21, eq_true hcI, List.replicate_zero]
  refine ex_loopW (fun p : {p : Nat × SrcS × List Int × Nat × Nat // p.1 ≤ ws.length ∧ p.2.1.1 + 2 * (ws.length - p.1) ≤ s4.1 + 20 ∧ Rises 0 (ws.length - 1) p.2.2.1 ∧ p.2.2.1.length ≤ p.1 ∧ ∀ x ∈ p.2.2.1, x < p.1} => mkG (ghs [] [19, 21, 43, 48, 54, 56]) [(0, .ptr 0 0 0), (2, .ptr 2 1 0), (3, .ptr 3 2 0), (5, .i c), (6, .own 31 p.1.2.2.2.1 0 p.1.2.2.1.length), (7, .i p.1.1)] [(0, ⟨0, 3, [bytesV bs, .i p.1.2.1.1, .u64 p.1.2.1.2]⟩), (2, ⟨1, 3, [.nl, .nl, .nl]⟩), (3, ⟨2, 3, [.own 22 g 0 ws.length, .own 49 g1 0 cv.length, .own 57 g2 0 cs.length]⟩), (22, ⟨g, 1, mapC AVal.i ws⟩), (49, ⟨g1, 1, mapC ints cv⟩), (57, ⟨g2, 1, mapC AVal.i cs⟩), (31, ⟨p.1.2.2.2.1, 1, mapC AVal.i p.1.2.2.1⟩)] p.1.2.2.2.2 60) (fun p => ws.length - p.1.1) ⟨(0, s4, [], G, G + 1), Nat.zero_le _, by show s4.1 + 2 * (ws.length - 0) ≤ _; omega, fun i h => absurd h (Nat.not_lt_zero i), Nat.le_refl _, by simp⟩ ?_ ?_
  · refine weak_mk rfl (by first | exact Nat.le_refl _ | (simp only [mk_gen]; omega)) ?_ ?_ <;> simp +decide only [w_lookup_nil, w_lookup_cons, ch_ch, ch_lit, lit_ch, wkT, wkH, wkB, WVL, WV_refl', Int.natCast_zero, Int.natCast_add, Int.natCast_one, Nat.sub_self, Nat.sub_zero, List.replicate_zero, List.take_zero, List.nil_append, List.append_nil, fillC_zero, Nat.reduceDiv, Nat.reduceAdd, upd_bk, bk_at, getB_zero, getB_succ, modB_zero, modB_succ, rows_lit, repB_zero, repB_succ, List.length_cons, List.length_nil, upd_upd_same, upd_apply, mk_tmp, mk_heap, mk_gen, lookupA, lookupH, List.getD_cons_zero, List.getD_cons_succ, init_two, tops, Bool.true_and, and_self, and_true, true_and, true_or, if_true, if_false, ite_true, ite_false, reduceCtorEq, reduceIte, mapC_nil, List.length_nil]
  rintro ⟨⟨i, s5, st, g3, G1⟩, r1, r2, r3, r4, r5⟩
  have r1' : i ≤ ws.length := r1
  have r2' : s5.1 + 2 * (ws.length - i) ≤ s4.1 + 20 := r2
  have r3' : Rises 0 (ws.length - 1) st := r3
  have r4' : st.length ≤ i := r4
  have r5' : ∀ x ∈ st, x < i := r5
  by_cases ilt : i < ws.length
  case pos =>
    have hw : IntKind.i64.wrap ((i : Int) + 1) = ((i + 1 : Nat) : Int) := wrap64 (by omega) (by omega)
    have h8 : (st.length + 1) * 8 ≤ 140737488355328 := by omega
    have tk : st.take st.length = st := List.take_length
    simp (config := { maxSteps := 1000000 }) +decide only [NoH, Old, OldL, nilQ, nilA, RechL, ReY, isNew, stepO, XPost, postN, XOk, updN, updU, isEff, avalue, aeff, ASt.eval, ASt.put, ASt.set, ASt.new, Nat.reduceDiv, Nat.reduceAdd, Int.reduceToNat, absV, absC, scalar, alen, acap, conc, flats, live, blkOf, aload, rd, part?, afieldAddr, afield, aindexAddr, cellsOf, afill, places, abuild, optI, asliceV, asliceS, szOk, srcCells, aappend, astore, amakeSlice, abuildSlice, snapL, mapO, treeL, AVal.tree, AVal.flatT, isFlat, ares, isFz, afroz, afrozB, lookupA, lookupH, tops, if_true, if_false, reduceCtorEq, forall_const, ite_true, ite_false, implies_true, walkS, tabS, Try.results21, ilt, hw]
    refine callY (deny_one hb 2 s5 (by omega)) (by simp (config := { maxSteps := 1000000 }) +decide only [NoH, Old, OldL, nilQ, nilA, RechL, ReY, isNew, stepO, XPost, postN, XOk, updN, updU, isEff, avalue, aeff, ASt.eval, ASt.put, ASt.set, ASt.new, Nat.reduceDiv, Nat.reduceAdd, Int.reduceToNat, absV, absC, scalar, alen, acap, conc, flats, live, blkOf, aload, rd, part?, afieldAddr, afield, aindexAddr, cellsOf, afill, places, abuild, optI, asliceV, asliceS, szOk, srcCells, aappend, astore, amakeSlice, abuildSlice, snapL, mapO, treeL, AVal.tree, AVal.flatT, isFlat, ares, isFz, afroz, afrozB, lookupA, lookupH, tops, if_true, if_false, reduceCtorEq, forall_const, ite_true, ite_false, implies_true, walkS, tabS, Try.results21]) (fun i hi => by simp (config := { maxSteps := 1000000 }) +decide only [NoH, Old, OldL, nilQ, nilA, RechL, ReY, isNew, stepO, XPost, postN, XOk, updN, updU, isEff, avalue, aeff, ASt.eval, ASt.put, ASt.set, ASt.new, Nat.reduceDiv, Nat.reduceAdd, Int.reduceToNat, absV, absC, scalar, alen, acap, conc, flats, live, blkOf, aload, rd, part?, afieldAddr, afield, aindexAddr, cellsOf, afill, places, abuild, optI, asliceV, asliceS, szOk, srcCells, aappend, astore, amakeSlice, abuildSlice, snapL, mapO, treeL, AVal.tree, AVal.flatT, isFlat, ares, isFz, afroz, afrozB, lookupA, lookupH, tops, if_true, if_false, reduceCtorEq, forall_const, ite_true, ite_false, implies_true, walkS, tabS, Try.results21]) ?_
    rintro ⟨s6, b⟩ v1
    have v1' : s6.1 ≤ s5.1 + 2 := v1
    cases b with
    | true =>
      simp (config := { maxSteps := 1000000 }) +decide only [NoH, Old, OldL, nilQ, nilA, RechL, ReY, isNew, stepO, XPost, postN, XOk, updN, updU, isEff, avalue, aeff, ASt.eval, ASt.put, ASt.set, ASt.new, Nat.reduceDiv, Nat.reduceAdd, Int.reduceToNat, absV, absC, scalar, alen, acap, conc, flats, live, blkOf, aload, rd, part?, afieldAddr, afield, aindexAddr, cellsOf, afill, places, abuild, optI, asliceV, asliceS, szOk, srcCells, aappend, astore, amakeSlice, abuildSlice, snapL, mapO, treeL, AVal.tree, AVal.flatT, isFlat, ares, isFz, afroz, afrozB, lookupA, lookupH, tops, if_true, if_false, reduceCtorEq, forall_const, ite_true, ite_false, implies_true, walkS, tabS, Try.results21, hw, h8, tk, List.replicate_succ, List.flatten_cons, List.flatten_nil, mapC_snoc]
      refine ⟨⟨(i + 1, s6, st ++ [(i : Int)], G1 + 1, G1 + 2), ilt, by show s6.1 + 2 * (ws.length - (i + 1)) ≤ _; omega, rises_snoc r3' (by omega) (by omega) (fun y hy => by have := r5' y hy; omega), by show (st ++ [(i : Int)]).length ≤ i + 1; simp; omega, fun x hx => ?_⟩, ?_, by show ws.length - (i + 1) < ws.length - i; omega⟩
      · show x < ((i + 1 : Nat) : Int)
        rcases List.mem_append.1 hx with hx | hx
        · have := r5' x hx; omega
        · simp only [List.mem_singleton] at hx; omega
      · refine weak_mk rfl (by first | exact Nat.le_refl _ | (simp only [mk_gen]; omega)) ?_ ?_ <;> simp +decide only [w_lookup_nil, w_lookup_cons, ch_ch, ch_lit, lit_ch, wkT, wkH, wkB, WVL, WV_refl', Int.natCast_zero, Int.natCast_add, Int.natCast_one, Nat.sub_self, Nat.sub_zero, List.replicate_zero, List.take_zero, List.nil_append, List.append_nil, fillC_zero, Nat.reduceDiv, Nat.reduceAdd, upd_bk, bk_at, getB_zero, getB_succ, modB_zero, modB_succ, rows_lit, repB_zero, repB_succ, List.length_cons, List.length_nil, upd_upd_same, upd_apply, mk_tmp, mk_heap, mk_gen, lookupA, lookupH, List.getD_cons_zero, List.getD_cons_succ, init_two, tops, Bool.true_and, and_self, and_true, true_and, true_or, if_true, if_false, ite_true, ite_false, reduceCtorEq, reduceIte, List.length_append, List.length_cons, List.length_nil, Nat.zero_add]
    | false =>
      simp (config := { maxSteps := 1000000 }) +decide only [NoH, Old, OldL, nilQ, nilA, RechL, ReY, isNew, stepO, XPost, postN, XOk, updN, updU, isEff, avalue, aeff, ASt.eval, ASt.put, ASt.set, ASt.new, Nat.reduceDiv, Nat.reduceAdd, Int.reduceToNat, absV, absC, scalar, alen, acap, conc, flats, live, blkOf, aload, rd, part?, afieldAddr, afield, aindexAddr, cellsOf, afill, places, abuild, optI, asliceV, asliceS, szOk, srcCells, aappend, astore, amakeSlice, abuildSlice, snapL, mapO, treeL, AVal.tree, AVal.flatT, isFlat, ares, isFz, afroz, afrozB, lookupA, lookupH, tops, if_true, if_false, reduceCtorEq, forall_const, ite_true, ite_false, implies_true, walkS, tabS, Try.results21, hw]
      refine ⟨⟨(i + 1, s6, st, g3, G1 + 1), ilt, by show s6.1 + 2 * (ws.length - (i + 1)) ≤ _; omega, r3', by show st.length ≤ i + 1; omega, fun x hx => by have := r5' x hx; show x < ((i + 1 : Nat) : Int); omega⟩, ?_, by show ws.length - (i + 1) < ws.length - i; omega⟩
      refine weak_mk rfl (by first | exact Nat.le_refl _ | (simp only [mk_gen]; omega)) ?_ ?_ <;> simp +decide only [w_lookup_nil, w_lookup_cons, ch_ch, ch_lit, lit_ch, wkT, wkH, wkB, WVL, WV_refl', Int.natCast_zero, Int.natCast_add, Int.natCast_one, Nat.sub_self, Nat.sub_zero, List.replicate_zero, List.take_zero, List.nil_append, List.append_nil, fillC_zero, Nat.reduceDiv, Nat.reduceAdd, upd_bk, bk_at, getB_zero, getB_succ, modB_zero, modB_succ, rows_lit, repB_zero, repB_succ, List.length_cons, List.length_nil, upd_upd_same, upd_apply, mk_tmp, mk_heap, mk_gen, lookupA, lookupH, List.getD_cons_zero, List.getD_cons_succ, init_two, tops, Bool.true_and, and_self, and_true, true_and, true_or, if_true, if_false, ite_true, ite_false, reduceCtorEq, reduceIte]
  simp (config := { maxSteps := 1000000 }) +decide only [NoH, Old, OldL, nilQ, nilA, RechL, ReY, isNew, stepO, XPost, postN, XOk, updN, updU, isEff, avalue, aeff, ASt.eval, ASt.put, ASt.set, ASt.new, Nat.reduceDiv, Nat.reduceAdd, Int.reduceToNat, absV, absC, scalar, alen, acap, conc, flats, live, blkOf, aload, rd, part?, afieldAddr, afield, aindexAddr, cellsOf, afill, places, abuild, optI, asliceV, asliceS, szOk, srcCells, aappend, astore, amakeSlice, abuildSlice, snapL, mapO, treeL, AVal.tree, AVal.flatT, isFlat, ares, isFz, afroz, afrozB, lookupA, lookupH, tops, if_true, if_false, reduceCtorEq, forall_const, ite_true, ite_false, implies_true, walkS, tabS, Try.results21, ilt, loopW_exit]
  refine ⟨mkG (ghs [] [19, 21, 43, 48, 54, 56]) [(0, .ptr 0 0 0), (2, .ptr 2 1 0), (3, .ptr 3 2 0), (5, .i c), (6, ints st)] [(0, ⟨0, 3, [bytesV bs, .i s5.1, .u64 s5.2]⟩), (2, ⟨1, 3, [.nl, .nl, .nl]⟩), (3, ⟨2, 3, [.own 22 g 0 ws.length, .own 49 g1 0 cv.length, .own 57 g2 0 cs.length]⟩), (22, ⟨g, 1, mapC AVal.i ws⟩), (49, ⟨g1, 1, mapC ints cv⟩), (57, ⟨g2, 1, mapC AVal.i cs⟩)] G1 60, .step ?_ (.refl _), ?_⟩
  · refine weak_mk rfl (by first | exact Nat.le_refl _ | (simp only [mk_gen]; omega)) ?_ ?_ <;> simp +decide only [w_lookup_nil, w_lookup_cons, ch_ch, ch_lit, lit_ch, wkT, wkH, wkB, WVL, WV_refl', Int.natCast_zero, Int.natCast_add, Int.natCast_one, Nat.sub_self, Nat.sub_zero, List.replicate_zero, List.take_zero, List.nil_append, List.append_nil, fillC_zero, Nat.reduceDiv, Nat.reduceAdd, upd_bk, bk_at, getB_zero, getB_succ, modB_zero, modB_succ, rows_lit, repB_zero, repB_succ, List.length_cons, List.length_nil, upd_upd_same, upd_apply, mk_tmp, mk_heap, mk_gen, lookupA, lookupH, List.getD_cons_zero, List.getD_cons_succ, init_two, tops, Bool.true_and, and_self, and_true, true_and, true_or, if_true, if_false, ite_true, ite_false, reduceCtorEq, reduceIte]
    exact WV_frz rfl rfl rfl (by simp [len_mapC]) (by rw [List.drop_zero]; exact (List.take_of_length_le (by rw [len_mapC]; simp)).symm) (treeL_i _)
  have hr9 : st.length ≤ 9 := by omega
  have h24 : (cv.length + 1) * 24 ≤ 140737488355328 := by omega
  have h8 : (cs.length + 1) * 8 ≤ 140737488355328 := by omega
  have tk1 : cv.take cv.length = cv := List.take_length
  have tk2 : cs.take cs.length = cs := List.take_length
  simp (config := { maxSteps := 1000000 }) +decide only [NoH, Old, OldL, nilQ, nilA, RechL, ReY, isNew, stepO, XPost, postN, XOk, updN, updU, isEff, avalue, aeff, ASt.eval, ASt.put, ASt.set, ASt.new, Nat.reduceDiv, Nat.reduceAdd, Int.reduceToNat, absV, absC, scalar, alen, acap, conc, flats, live, blkOf, aload, rd, part?, afieldAddr, afield, aindexAddr, cellsOf, afill, places, abuild, optI, asliceV, asliceS, szOk, srcCells, aappend, astore, amakeSlice, abuildSlice, snapL, mapO, treeL, AVal.tree, AVal.flatT, isFlat, ares, isFz, afroz, afrozB, lookupA, lookupH, tops, if_true, if_false, reduceCtorEq, forall_const, ite_true, ite_false, implies_true, walkS, tabS, Try.results21, h24, tk1, mapC_snoc, List.replicate_succ, List.flatten_cons, List.flatten_nil]
  refine callX (denx_among hb [1, 1, 2, 3, 10, 1000] (by simp) 6 rfl s5 (by omega)) (by simp (config := { maxSteps := 1000000 }) +decide only [NoH, Old, OldL, nilQ, nilA, RechL, ReY, isNew, stepO, XPost, postN, XOk, updN, updU, isEff, avalue, aeff, ASt.eval, ASt.put, ASt.set, ASt.new, Nat.reduceDiv, Nat.reduceAdd, Int.reduceToNat, absV, absC, scalar, alen, acap, conc, flats, live, blkOf, aload, rd, part?, afieldAddr, afield, aindexAddr, cellsOf, afill, places, abuild, optI, asliceV, asliceS, szOk, srcCells, aappend, astore, amakeSlice, abuildSlice, snapL, mapO, treeL, AVal.tree, AVal.flatT, isFlat, ares, isFz, afroz, afrozB, lookupA, lookupH, tops, if_true, if_false, reduceCtorEq, forall_const, ite_true, ite_false, implies_true, walkS, tabS, Try.results21, mapC_lit, mapC_nil]) ?_
  have e1 := pkS_le bs 6 s5
  have e2 := amV_mem hb (L := [1, 1, 2, 3, 10, 1000]) (by simp) s5
  generalize amV bs [1, 1, 2, 3, 10, 1000] s5 = v at e2 ⊢
  generalize pkS bs 6 s5 = s7 at e1 ⊢
  simp (config := { maxSteps := 1000000 }) +decide only [NoH, Old, OldL, nilQ, nilA, RechL, ReY, isNew, stepO, XPost, postN, XOk, updN, updU, isEff, avalue, aeff, ASt.eval, ASt.put, ASt.set, ASt.new, Nat.reduceDiv, Nat.reduceAdd, Int.reduceToNat, absV, absC, scalar, alen, acap, conc, flats, live, blkOf, aload, rd, part?, afieldAddr, afield, aindexAddr, cellsOf, afill, places, abuild, optI, asliceV, asliceS, szOk, srcCells, aappend, astore, amakeSlice, abuildSlice, snapL, mapO, treeL, AVal.tree, AVal.flatT, isFlat, ares, isFz, afroz, afrozB, lookupA, lookupH, tops, if_true, if_false, reduceCtorEq, forall_const, ite_true, ite_false, implies_true, walkS, tabS, Try.results21, h8, hw, tk2, mapC_snoc, List.replicate_succ, List.flatten_cons, List.flatten_nil]
  refine ⟨⟨(c - 1, s7, cv ++ [st], cs ++ [v], G1, G1 + 2, G1 + 3), by simp; omega, by simp; omega, by show s7.1 + 100 * (c - 1) ≤ _; omega, by simp [q4'], fun k h => ?_, fun x hx => ?_⟩, ?_, by show c - 1 < c; omega⟩
  · show Rises 0 _ (cv ++ [st])[k]
    by_cases hk : k < cv.length
    · rw [List.getElem_append_left hk]; exact q5' k hk
    · have e : k = cv.length := by simp at h; omega
      subst e
      have e3 : (cv ++ [st])[cv.length] = st := by simp
      rw [e3]
      exact r3'
  · rcases List.mem_append.1 hx with hx | hx
    · exact q6' x hx
    · simp only [List.mem_singleton] at hx
      subst hx
      simp only [List.mem_cons, List.not_mem_nil, or_false] at e2
      omega
  · refine weak_mk rfl (by first | exact Nat.le_refl _ | (simp only [mk_gen]; omega)) ?_ ?_ <;> simp +decide only [w_lookup_nil, w_lookup_cons, ch_ch, ch_lit, lit_ch, wkT, wkH, wkB, WVL, WV_refl', Int.natCast_zero, Int.natCast_add, Int.natCast_one, Nat.sub_self, Nat.sub_zero, List.replicate_zero, List.take_zero, List.nil_append, List.append_nil, fillC_zero, Nat.reduceDiv, Nat.reduceAdd, upd_bk, bk_at, getB_zero, getB_succ, modB_zero, modB_succ, rows_lit, repB_zero, repB_succ, List.length_cons, List.length_nil, upd_upd_same, upd_apply, mk_tmp, mk_heap, mk_gen, lookupA, lookupH, List.getD_cons_zero, List.getD_cons_succ, init_two, tops, Bool.true_and, and_self, and_true, true_and, true_or, if_true, if_false, ite_true, ite_false, reduceCtorEq, reduceIte, List.length_append, List.length_cons, List.length_nil, Nat.zero_add]
end Go.Proofs.Ytocbojbgadcpcaa
