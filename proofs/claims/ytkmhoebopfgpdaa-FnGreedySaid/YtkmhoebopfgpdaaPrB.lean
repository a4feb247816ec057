/-
  OWN WORK: problems of assignment that the laws draw: domains rise.
  OWN WORK: problems of assignment that the laws draw: domains.
-/
import Derived.Test.YtkmhoebopfgpdaaSrcY
namespace Go.Proofs.Ytkmhoebopfgpdaa
open Go Go.Own Go.Proofs
set_option maxHeartbeats 4000000
set_option maxRecDepth 20000
set_option linter.unusedSimpArgs false
/-- a domain: after k numbers more -/
def ddK (bs : List Int) (p : List Int × SrcS) : Nat → List Int × SrcS
  | 0 => p
  | k + 1 => (put (ddK bs p k).1 (pkV bs 12 (ddK bs p k).2), pkS bs 12 (ddK bs p k).2)
def dd0 (bs : List Int) (s : SrcS) : List Int × SrcS := ([pkV bs 12 s], pkS bs 8 (pkS bs 12 s))
def ddN (bs : List Int) (s : SrcS) : Nat := (pkV bs 8 (pkS bs 12 s)).toNat
def dd (bs : List Int) (s : SrcS) : List Int × SrcS := ddK bs (dd0 bs s) (ddN bs s)
theorem put_le (xs : List Int) (x : Int) : (put xs x).length ≤ xs.length + 2 := by
  have h := (putK_len xs x xs.length).1
  unfold put
  split
  · omega
  · simp; omega
theorem ddK_in (bs : List Int) (p : List Int × SrcS) : ∀ k, (ddK bs p k).1.length ≤ p.1.length + 2 * k ∧ (ddK bs p k).2.1 ≤ p.2.1 + 2 * k
  | 0 => ⟨Nat.le_refl _, Nat.le_refl _⟩
  | k + 1 => by
    obtain ⟨h1, h2⟩ := ddK_in bs p k
    have h3 := put_le (ddK bs p k).1 (pkV bs 12 (ddK bs p k).2)
    have h4 := pkS_le bs 12 (ddK bs p k).2
    exact ⟨by show (put _ _).length ≤ _; omega, by show (pkS bs 12 _).1 ≤ _; omega⟩
theorem denx_l17DrawDomain {bs : List Int} (hb : Byt bs) (s : SrcS) (hs : s.1 ≤ 1000000) : DenX Try.prog 76 [srcX bs s] [srcX bs (dd bs s).2] (.v (ints (dd bs s).1)) := by
  refine denx_of_awpG (ghs [] [7]) Try.func76 rfl (by kernel_rfl) (Nat.le_of_ble_eq_true rfl) (by simp +decide only [w_embA_nil, w_embA_cons, w_emb_v, w_emb_ol, w_emb_op, w_emb_agg, w_emb_tup, w_embL_nil, w_embL_cons, embL_i, List.map_cons, List.map_nil, List.nil_append, List.append_nil, List.cons_append, List.nodup_cons, List.nodup_nil, List.mem_cons, List.mem_nil_iff, List.not_mem_nil, ch_ch, ch_lit, lit_ch, Nat.reduceAdd]) mixed (by kernel_rfl) fun hl => ?_
  simp only [xlensL, xlens, lensL, lens, lensL_i, lensL_mapC, xlensL_i, maxI, and_true, true_and] at hl
  rw [Try.ntmps76]
  refine ex_start ?_
  have e1 := pkS_le bs 12 s
  have e2 := pkS_le bs 8 (pkS bs 12 s)
  have h2 := pkV_in hb 8 (pkS bs 12 s)
  simp (config := { maxSteps := 1000000 }) +decide only [NoH, Old, OldL, nilQ, nilA, asgn, nz, RechL, ReY, isNew, stepO, XPost, postN, XOk, updN, updU, isEff, avalue, aeff, ASt.eval, ASt.put, ASt.set, ASt.new, Nat.reduceDiv, Nat.reduceAdd, Int.reduceToNat, absV, absC, scalar, alen, acap, conc, flats, live, blkOf, aload, rd, part?, afieldAddr, afield, aindexAddr, cellsOf, afill, places, abuild, optI, asliceV, asliceS, szOk, srcCells, aappend, acopy, aclear, astore, amakeSlice, abuildSlice, snapL, mapO, treeL, AVal.tree, AVal.flatT, isFlat, ares, isFz, afroz, afrozB, lookupA, lookupH, tops, if_true, if_false, reduceCtorEq, forall_const, ite_true, ite_false, implies_true, walkS, tabS, Try.results76]
  refine callX (denx_pick hb 12 s (by omega)) (by simp (config := { maxSteps := 1000000 }) +decide only [NoH, Old, OldL, nilQ, nilA, asgn, nz, RechL, ReY, isNew, stepO, XPost, postN, XOk, updN, updU, isEff, avalue, aeff, ASt.eval, ASt.put, ASt.set, ASt.new, Nat.reduceDiv, Nat.reduceAdd, Int.reduceToNat, absV, absC, scalar, alen, acap, conc, flats, live, blkOf, aload, rd, part?, afieldAddr, afield, aindexAddr, cellsOf, afill, places, abuild, optI, asliceV, asliceS, szOk, srcCells, aappend, acopy, aclear, astore, amakeSlice, abuildSlice, snapL, mapO, treeL, AVal.tree, AVal.flatT, isFlat, ares, isFz, afroz, afrozB, lookupA, lookupH, tops, if_true, if_false, reduceCtorEq, forall_const, ite_true, ite_false, implies_true, walkS, tabS, Try.results76]) ?_
  simp (config := { maxSteps := 1000000 }) +decide only [NoH, Old, OldL, nilQ, nilA, asgn, nz, RechL, ReY, isNew, stepO, XPost, postN, XOk, updN, updU, isEff, avalue, aeff, ASt.eval, ASt.put, ASt.set, ASt.new, Nat.reduceDiv, Nat.reduceAdd, Int.reduceToNat, absV, absC, scalar, alen, acap, conc, flats, live, blkOf, aload, rd, part?, afieldAddr, afield, aindexAddr, cellsOf, afill, places, abuild, optI, asliceV, asliceS, szOk, srcCells, aappend, acopy, aclear, astore, amakeSlice, abuildSlice, snapL, mapO, treeL, AVal.tree, AVal.flatT, isFlat, ares, isFz, afroz, afrozB, lookupA, lookupH, tops, if_true, if_false, reduceCtorEq, forall_const, ite_true, ite_false, implies_true, walkS, tabS, Try.results76]
  refine callX (denx_pick hb 8 (pkS bs 12 s) (by omega)) (by simp (config := { maxSteps := 1000000 }) +decide only [NoH, Old, OldL, nilQ, nilA, asgn, nz, RechL, ReY, isNew, stepO, XPost, postN, XOk, updN, updU, isEff, avalue, aeff, ASt.eval, ASt.put, ASt.set, ASt.new, Nat.reduceDiv, Nat.reduceAdd, Int.reduceToNat, absV, absC, scalar, alen, acap, conc, flats, live, blkOf, aload, rd, part?, afieldAddr, afield, aindexAddr, cellsOf, afill, places, abuild, optI, asliceV, asliceS, szOk, srcCells, aappend, acopy, aclear, astore, amakeSlice, abuildSlice, snapL, mapO, treeL, AVal.tree, AVal.flatT, isFlat, ares, isFz, afroz, afrozB, lookupA, lookupH, tops, if_true, if_false, reduceCtorEq, forall_const, ite_true, ite_false, implies_true, walkS, tabS, Try.results76]) ?_
  obtain ⟨N, hN⟩ : ∃ N : Nat, pkV bs 8 (pkS bs 12 s) = N := ⟨(pkV bs 8 (pkS bs 12 s)).toNat, by omega⟩
  have hN8 : N < 8 := by have := h2.2 (by omega); omega
  have edd : dd bs s = ddK bs (dd0 bs s) N := by unfold dd ddN; rw [hN, Int.toNat_natCast]
  rw [edd, hN]
  have b0 : (dd0 bs s).1.length = 1 ∧ (dd0 bs s).2.1 ≤ s.1 + 4 := ⟨rfl, by show (pkS bs 8 (pkS bs 12 s)).1 ≤ _; omega⟩
  simp (config := { maxSteps := 1000000 }) +decide only [NoH, Old, OldL, nilQ, nilA, asgn, nz, RechL, ReY, isNew, stepO, XPost, postN, XOk, updN, updU, isEff, avalue, aeff, ASt.eval, ASt.put, ASt.set, ASt.new, Nat.reduceDiv, Nat.reduceAdd, Int.reduceToNat, absV, absC, scalar, alen, acap, conc, flats, live, blkOf, aload, rd, part?, afieldAddr, afield, aindexAddr, cellsOf, afill, places, abuild, optI, asliceV, asliceS, szOk, srcCells, aappend, acopy, aclear, astore, amakeSlice, abuildSlice, snapL, mapO, treeL, AVal.tree, AVal.flatT, isFlat, ares, isFz, afroz, afrozB, lookupA, lookupH, tops, if_true, if_false, reduceCtorEq, forall_const, ite_true, ite_false, implies_true, walkS, tabS, Try.results76]
  refine ex_loop (fun p : {p : Nat × Nat // p.1 ≤ N} => mkG (ghs [] [7]) [(0, .ptr 0 0 0), (3, ints (ddK bs (dd0 bs s) p.1.1).1), (4, .i ((N : Int) - (p.1.1 : Int)))] [(0, ⟨0, 3, [bytesV bs, .i (ddK bs (dd0 bs s) p.1.1).2.1, .u64 (ddK bs (dd0 bs s) p.1.1).2.2]⟩)] p.1.2 19) (fun p => N - p.1.1) ⟨(0, 3), Nat.zero_le _⟩ ?_ ?_
  · have hz : (List.replicate 1 (0 : Int)).set 0 (pkV bs 12 s) = [pkV bs 12 s] := rfl
    refine weak_mk rfl (by first | exact Nat.le_refl _ | (simp only [mk_gen]; omega)) ?_ ?_ <;> simp +decide only [w_lookup_nil, w_lookup_cons, ch_ch, ch_lit, lit_ch, wkT, wkH, wkB, WVL, WV_refl', Int.natCast_zero, Int.natCast_add, Int.natCast_one, Nat.sub_self, Nat.sub_zero, List.replicate_zero, List.take_zero, List.nil_append, List.append_nil, fillC_zero, Nat.reduceDiv, Nat.reduceAdd, upd_bk, bk_at, getB_zero, getB_succ, modB_zero, modB_succ, rows_lit, repB_zero, repB_succ, List.length_cons, List.length_nil, upd_upd_same, upd_apply, mk_tmp, mk_heap, mk_gen, lookupA, lookupH, List.getD_cons_zero, List.getD_cons_succ, init_two, tops, Bool.true_and, and_self, and_true, true_and, true_or, if_true, if_false, ite_true, ite_false, reduceCtorEq, reduceIte, ddK, dd0, Int.sub_zero, hz, List.length_cons, List.length_nil, Nat.zero_add]
    exact .inl rfl
  rintro ⟨⟨k, G⟩, hk⟩
  have hk' : k ≤ N := hk
  obtain ⟨l1, l2⟩ := ddK_in bs (dd0 bs s) k
  by_cases hlt : k < N
  · have c1 : (0 : Int) < (N : Int) - (k : Int) := by omega
    have w1 : IntKind.i64.wrap ((N : Int) - (k : Int) - 1) = (N : Int) - ((k + 1 : Nat) : Int) := (wrap64 (by omega) (by omega)).trans (by omega)
    simp (config := { maxSteps := 1000000 }) +decide only [NoH, Old, OldL, nilQ, nilA, asgn, nz, RechL, ReY, isNew, stepO, XPost, postN, XOk, updN, updU, isEff, avalue, aeff, ASt.eval, ASt.put, ASt.set, ASt.new, Nat.reduceDiv, Nat.reduceAdd, Int.reduceToNat, absV, absC, scalar, alen, acap, conc, flats, live, blkOf, aload, rd, part?, afieldAddr, afield, aindexAddr, cellsOf, afill, places, abuild, optI, asliceV, asliceS, szOk, srcCells, aappend, acopy, aclear, astore, amakeSlice, abuildSlice, snapL, mapO, treeL, AVal.tree, AVal.flatT, isFlat, ares, isFz, afroz, afrozB, lookupA, lookupH, tops, if_true, if_false, reduceCtorEq, forall_const, ite_true, ite_false, implies_true, walkS, tabS, Try.results76, eq_true c1]
    refine callX (denx_pick hb 12 (ddK bs (dd0 bs s) k).2 (by omega)) (by simp (config := { maxSteps := 1000000 }) +decide only [NoH, Old, OldL, nilQ, nilA, asgn, nz, RechL, ReY, isNew, stepO, XPost, postN, XOk, updN, updU, isEff, avalue, aeff, ASt.eval, ASt.put, ASt.set, ASt.new, Nat.reduceDiv, Nat.reduceAdd, Int.reduceToNat, absV, absC, scalar, alen, acap, conc, flats, live, blkOf, aload, rd, part?, afieldAddr, afield, aindexAddr, cellsOf, afill, places, abuild, optI, asliceV, asliceS, szOk, srcCells, aappend, acopy, aclear, astore, amakeSlice, abuildSlice, snapL, mapO, treeL, AVal.tree, AVal.flatT, isFlat, ares, isFz, afroz, afrozB, lookupA, lookupH, tops, if_true, if_false, reduceCtorEq, forall_const, ite_true, ite_false, implies_true, walkS, tabS, Try.results76]) ?_
    simp (config := { maxSteps := 1000000 }) +decide only [NoH, Old, OldL, nilQ, nilA, asgn, nz, RechL, ReY, isNew, stepO, XPost, postN, XOk, updN, updU, isEff, avalue, aeff, ASt.eval, ASt.put, ASt.set, ASt.new, Nat.reduceDiv, Nat.reduceAdd, Int.reduceToNat, absV, absC, scalar, alen, acap, conc, flats, live, blkOf, aload, rd, part?, afieldAddr, afield, aindexAddr, cellsOf, afill, places, abuild, optI, asliceV, asliceS, szOk, srcCells, aappend, acopy, aclear, astore, amakeSlice, abuildSlice, snapL, mapO, treeL, AVal.tree, AVal.flatT, isFlat, ares, isFz, afroz, afrozB, lookupA, lookupH, tops, if_true, if_false, reduceCtorEq, forall_const, ite_true, ite_false, implies_true, walkS, tabS, Try.results76]
    refine callK (den_l00Put (ddK bs (dd0 bs s) k).1 (pkV bs 12 (ddK bs (dd0 bs s) k).2) (by omega)) (by first | exact .inl rfl | exact .inr rfl) ?_
    simp (config := { maxSteps := 1000000 }) +decide only [NoH, Old, OldL, nilQ, nilA, asgn, nz, RechL, ReY, isNew, stepO, XPost, postN, XOk, updN, updU, isEff, avalue, aeff, ASt.eval, ASt.put, ASt.set, ASt.new, Nat.reduceDiv, Nat.reduceAdd, Int.reduceToNat, absV, absC, scalar, alen, acap, conc, flats, live, blkOf, aload, rd, part?, afieldAddr, afield, aindexAddr, cellsOf, afill, places, abuild, optI, asliceV, asliceS, szOk, srcCells, aappend, acopy, aclear, astore, amakeSlice, abuildSlice, snapL, mapO, treeL, AVal.tree, AVal.flatT, isFlat, ares, isFz, afroz, afrozB, lookupA, lookupH, tops, if_true, if_false, reduceCtorEq, forall_const, ite_true, ite_false, implies_true, walkS, tabS, Try.results76, w1]
    refine ⟨⟨(k + 1, G + 1), hlt⟩, ?_, by show N - (k + 1) < N - k; omega⟩
    refine weak_mk rfl (by first | exact Nat.le_refl _ | (simp only [mk_gen]; omega)) ?_ ?_ <;> simp +decide only [w_lookup_nil, w_lookup_cons, ch_ch, ch_lit, lit_ch, wkT, wkH, wkB, WVL, WV_refl', Int.natCast_zero, Int.natCast_add, Int.natCast_one, Nat.sub_self, Nat.sub_zero, List.replicate_zero, List.take_zero, List.nil_append, List.append_nil, fillC_zero, Nat.reduceDiv, Nat.reduceAdd, upd_bk, bk_at, getB_zero, getB_succ, modB_zero, modB_succ, rows_lit, repB_zero, repB_succ, List.length_cons, List.length_nil, upd_upd_same, upd_apply, mk_tmp, mk_heap, mk_gen, lookupA, lookupH, List.getD_cons_zero, List.getD_cons_succ, init_two, tops, Bool.true_and, and_self, and_true, true_and, true_or, if_true, if_false, ite_true, ite_false, reduceCtorEq, reduceIte, ddK]
  have e : k = N := by omega
  subst e
  have c1 : ¬ (0 : Int) < (k : Int) - (k : Int) := by omega
  simp (config := { maxSteps := 1000000 }) +decide only [NoH, Old, OldL, nilQ, nilA, asgn, nz, RechL, ReY, isNew, stepO, XPost, postN, XOk, updN, updU, isEff, avalue, aeff, ASt.eval, ASt.put, ASt.set, ASt.new, Nat.reduceDiv, Nat.reduceAdd, Int.reduceToNat, absV, absC, scalar, alen, acap, conc, flats, live, blkOf, aload, rd, part?, afieldAddr, afield, aindexAddr, cellsOf, afill, places, abuild, optI, asliceV, asliceS, szOk, srcCells, aappend, acopy, aclear, astore, amakeSlice, abuildSlice, snapL, mapO, treeL, AVal.tree, AVal.flatT, isFlat, ares, isFz, afroz, afrozB, lookupA, lookupH, tops, if_true, if_false, reduceCtorEq, forall_const, ite_true, ite_false, implies_true, walkS, tabS, Try.results76, eq_false c1]
theorem ins_pw {x : Int} : ∀ {l : List Int}, l.Pairwise (· < ·) → (ins x l).Pairwise (· < ·)
  | [], _ => by simp [ins]
  | z :: l, h => by
    obtain ⟨h1, h2⟩ := List.pairwise_cons.1 h
    unfold ins
    split
    · split
      · rename_i _ hlt
        refine List.pairwise_cons.2 ⟨fun y hy => ?_, h⟩
        rcases List.mem_cons.1 hy with e | e
        · rw [e]; exact hlt
        · have := h1 y e; omega
      · exact h
    · rename_i hle
      refine List.pairwise_cons.2 ⟨fun y hy => ?_, ins_pw h2⟩
      rcases mem_ins.1 hy with e | e
      · rw [e]; omega
      · exact h1 y e
theorem ins_pos {x : Int} : ∀ {l : List Int}, 1 ≤ (ins x l).length
  | [] => by simp [ins]
  | z :: l => by
    unfold ins
    split
    · split <;> simp
    · simp
theorem rises_pw {lo hi : Int} {xs : List Int} (h : xs.Pairwise (· < ·)) (hb : ∀ y ∈ xs, lo ≤ y ∧ y ≤ hi) : Rises lo hi xs := by
  intro i hi
  refine ⟨hb _ (List.getElem_mem hi), fun h0 => ?_⟩
  exact List.pairwise_iff_getElem.1 h (i - 1) i (by omega) hi (by omega)
structure DomOk (d : List Int) : Prop where
  pos : 1 ≤ d.length
  few : d.length ≤ 32
  up : Rises 0 999 d
theorem ddK_ok {bs : List Int} (hb : Byt bs) (s : SrcS) : ∀ k, 1 ≤ (ddK bs (dd0 bs s) k).1.length ∧ (ddK bs (dd0 bs s) k).1.Pairwise (· < ·) ∧ ∀ y ∈ (ddK bs (dd0 bs s) k).1, 0 ≤ y ∧ y ≤ 11
  | 0 => by
    have h := pkV_in hb 12 s
    refine ⟨Nat.le_refl _, by simp [ddK, dd0], fun y hy => ?_⟩
    have e : y = pkV bs 12 s := by simpa [ddK, dd0] using hy
    rw [e]
    have := h.2 (by omega)
    omega
  | k + 1 => by
    obtain ⟨h1, h2, h3⟩ := ddK_ok hb s k
    have h := pkV_in hb 12 (ddK bs (dd0 bs s) k).2
    have e : (ddK bs (dd0 bs s) (k + 1)).1 = ins (pkV bs 12 (ddK bs (dd0 bs s) k).2) (ddK bs (dd0 bs s) k).1 := put_ins _ _
    rw [e]
    refine ⟨ins_pos, ins_pw h2, fun y hy => ?_⟩
    rcases mem_ins.1 hy with e2 | e2
    · rw [e2]
      have := h.2 (by omega)
      omega
    · exact h3 y e2
theorem dd_ok {bs : List Int} (hb : Byt bs) (s : SrcS) : DomOk (dd bs s).1 ∧ (dd bs s).2.1 ≤ s.1 + 20 := by
  have h2 := pkV_in hb 8 (pkS bs 12 s)
  have e1 := pkS_le bs 12 s
  have e2 := pkS_le bs 8 (pkS bs 12 s)
  have hN : ddN bs s < 8 := by
    have := h2.2 (by omega)
    unfold ddN
    omega
  obtain ⟨l1, l2⟩ := ddK_in bs (dd0 bs s) (ddN bs s)
  obtain ⟨a1, a2, a3⟩ := ddK_ok hb s (ddN bs s)
  have b1 : (dd0 bs s).1.length = 1 := rfl
  have b2 : (dd0 bs s).2.1 ≤ s.1 + 4 := by show (pkS bs 8 (pkS bs 12 s)).1 ≤ _; omega
  unfold dd
  exact ⟨⟨a1, by omega, rises_pw a2 fun y hy => by have := a3 y hy; omega⟩, by omega⟩
end Go.Proofs.Ytkmhoebopfgpdaa
