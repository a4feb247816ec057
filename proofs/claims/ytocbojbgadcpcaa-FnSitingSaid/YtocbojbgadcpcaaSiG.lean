/-
  OWN WORK: the program's search for the choice with the greatest weight.
-/
import Derived.Test.YtocbojbgadcpcaaSiF
namespace Go.Proofs.Ytocbojbgadcpcaa
open Go Go.Own Go.Proofs
set_option maxHeartbeats 4000000
set_option maxRecDepth 20000
set_option linter.unusedSimpArgs false
theorem one_0 : one [] = AVal.tup [] := rfl
noncomputable def leafC (ws : List Int) (cv : List (List Int)) (count : Int) (ch : List Int) (s : SS) : Option SS :=
  if (ch.length : Int) = count then some (if s.m < sumAt ws (covL ws cv ch) then ⟨s.b, sumAt ws (covL ws cv ch), ch⟩ else s) else none
theorem leafC_ok (ws : List Int) (cv : List (List Int)) (count : Int) : LeafOk cv (leafC ws cv count) := by
  intro ch s s' _ h
  unfold leafC at h
  split at h
  · simp only [Option.some.injEq] at h
    subst h
    split
    · exact ⟨rfl, fun h => by show -1 ≤ sumAt ws (covL ws cv ch); omega, fun _ h => h⟩
    · exact ⟨rfl, id, fun h _ => h⟩
  · simp at h
/-- a search's state in memory, as the program lays it -/
abbrev seT (ws : List Int) (cv : List (List Int)) (cs ch : List Int) (s : SS) : XT := .op [.v (ints ws), .v (intss cv), .v (ints cs), xi s.b, xints ch, xints s.best, xi s.m]
theorem den_next (ws : List Int) (cv : List (List Int)) (cs ch best : List Int) (b m : Int) (hch : Chn cv ch) (hn : cv.length ≤ 20) : Den Try.prog 51 [.iptr [ints ws, intss cv, ints cs, .i b, ints ch, ints best, .i m] 0] (.i (nextOf ch)) := by
  refine den_of_awp Try.func51 rfl (by kernel_rfl) (Nat.le_of_ble_eq_true rfl) (by simp only [treeL, AVal.tree, treeL_i, treeL_ints, treeL_u8, treeL_append, Bool.and_self, Bool.and_true, Bool.true_and]) (by first | rfl | simp only [treeL, AVal.tree, treeL_i, treeL_ints, treeL_u8, treeL_append, Bool.and_self, Bool.and_true, Bool.true_and]) mixed (by kernel_rfl) fun hl => ?_
  simp only [lensL, lens, lensL_i, lensL_mapC, maxI, and_true, true_and] at hl
  rw [Try.ntmps51]
  refine ex_start ?_
  by_cases h0 : ch.length = 0
  · obtain rfl := List.eq_nil_of_length_eq_zero h0
    simp (config := { maxSteps := 1000000 }) +decide only [NoH, Old, OldL, nilQ, nilA, RechL, ReY, isNew, stepO, XPost, postN, XOk, updN, updU, isEff, avalue, aeff, ASt.eval, ASt.put, ASt.set, ASt.new, Nat.reduceDiv, Nat.reduceAdd, Int.reduceToNat, absV, absC, scalar, alen, acap, conc, flats, live, blkOf, aload, rd, part?, afieldAddr, afield, aindexAddr, cellsOf, afill, places, abuild, optI, asliceV, asliceS, szOk, srcCells, aappend, astore, amakeSlice, abuildSlice, snapL, mapO, treeL, AVal.tree, AVal.flatT, isFlat, ares, isFz, afroz, afrozB, lookupA, lookupH, tops, if_true, if_false, reduceCtorEq, forall_const, ite_true, ite_false, implies_true, walkS, tabS, Try.results51, nextOf_nil]
  · have hlt : ch.length - 1 < ch.length := by omega
    obtain ⟨n, en, hn2⟩ := hch.idx (ch.length - 1) hlt
    have e1 : nextOf ch = n + 1 := by
      unfold nextOf
      rw [List.getLast?_eq_getElem?, List.getElem?_eq_getElem hlt, en]
      rfl
    have hle := hch.le
    have hnx := hch.nx
    have hw : IntKind.i64.wrap ((ch.length : Int) - 1) = ((ch.length - 1 : Nat) : Int) := (wrap64 (by omega) (by omega)).trans (by omega)
    have hw2 : IntKind.i64.wrap ((n : Int) + 1) = ((n + 1 : Nat) : Int) := wrap64 (by omega) (by omega)
    have hz : ¬ (ch.length : Int) = 0 := by omega
    simp (config := { maxSteps := 1000000 }) +decide only [NoH, Old, OldL, nilQ, nilA, RechL, ReY, isNew, stepO, XPost, postN, XOk, updN, updU, isEff, avalue, aeff, ASt.eval, ASt.put, ASt.set, ASt.new, Nat.reduceDiv, Nat.reduceAdd, Int.reduceToNat, absV, absC, scalar, alen, acap, conc, flats, live, blkOf, aload, rd, part?, afieldAddr, afield, aindexAddr, cellsOf, afill, places, abuild, optI, asliceV, asliceS, szOk, srcCells, aappend, astore, amakeSlice, abuildSlice, snapL, mapO, treeL, AVal.tree, AVal.flatT, isFlat, ares, isFz, afroz, afrozB, lookupA, lookupH, tops, if_true, if_false, reduceCtorEq, forall_const, ite_true, ite_false, implies_true, walkS, tabS, Try.results51, eq_false hz, hw, hlt, en, hw2, e1]
theorem denx_chooseStep (ws : List Int) (cv : List (List Int)) (cs : List Int) (count : Int) (hw : ws.length ≤ 64) (hn : cv.length ≤ 20) (f : Nat)
    (ih : ∀ (ch : List Int) (s : SS), cv.length - nextOf ch < f → Chn cv ch → 0 ≤ s.b → SOk s → DenX Try.prog 34 [seT ws cv cs ch s, xi count] [seT ws cv cs ch (node (leafC ws cv count) cv.length f ch s), xi count] (.tup []))
    (ch : List Int) (s : SS) (hf : cv.length - nextOf ch < f + 1) (hch : Chn cv ch) (h0 : 0 ≤ s.b) (hs : SOk s) : DenX Try.prog 34 [seT ws cv cs ch s, xi count] [seT ws cv cs ch (node (leafC ws cv count) cv.length (f + 1) ch s), xi count] (.tup []) := by
  obtain ⟨b, m, best⟩ := s
  have hlo := hs.lo
  have hhi := hs.hi
  have hm1 := hs.m
  have hbl := hs.best
  have hle := hch.le
  have hnx := hch.nx
  simp only at h0 hlo hhi hm1 hbl
  have hw0 : IntKind.i64.wrap (b - 1) = b - 1 := wrap64 (by omega) (by omega)
  generalize hr : node (leafC ws cv count) cv.length (f + 1) ch ⟨b, m, best⟩ = r
  unfold node at hr
  simp only at hr
  have htk : List.take ch.length ch = ch := List.take_of_length_le (by omega)
  have htb : List.take best.length best = best := List.take_of_length_le (by omega)
  refine denx_of_awpG (ghs [] [77]) Try.func34 rfl (by kernel_rfl) (Nat.le_of_ble_eq_true rfl) (by simp +decide only [w_embA_nil, w_embA_cons, w_emb_v, w_emb_ol, w_emb_op, w_emb_agg, w_emb_tup, w_embL_nil, w_embL_cons, embL_i, List.map_cons, List.map_nil, List.nil_append, List.append_nil, List.cons_append, List.nodup_cons, List.nodup_nil, List.mem_cons, List.mem_nil_iff, List.not_mem_nil, ch_ch, ch_lit, lit_ch, Nat.reduceAdd]) mixed (by kernel_rfl) fun hl => ?_
  simp only [xlensL, xlens, lensL, lens, lensL_i, lensL_mapC, xlensL_i, maxI, and_true, true_and] at hl
  rw [Try.ntmps34]
  refine ex_start ?_
  by_cases hb : b - 1 < 0
  · rw [if_pos hb] at hr
    subst hr
    simp (config := { maxSteps := 1000000 }) +decide only [NoH, Old, OldL, nilQ, nilA, RechL, ReY, isNew, stepO, XPost, postN, XOk, updN, updU, isEff, avalue, aeff, ASt.eval, ASt.put, ASt.set, ASt.new, Nat.reduceDiv, Nat.reduceAdd, Int.reduceToNat, absV, absC, scalar, alen, acap, conc, flats, live, blkOf, aload, rd, part?, afieldAddr, afield, aindexAddr, cellsOf, afill, places, abuild, optI, asliceV, asliceS, szOk, srcCells, aappend, astore, amakeSlice, abuildSlice, snapL, mapO, treeL, AVal.tree, AVal.flatT, isFlat, ares, isFz, afroz, afrozB, lookupA, lookupH, tops, if_true, if_false, reduceCtorEq, forall_const, ite_true, ite_false, implies_true, walkS, tabS, Try.results34, hw0, eq_true hb, htk, htb, one_0]
  rw [if_neg hb] at hr
  by_cases hc : (ch.length : Int) = count
  · have el : leafC ws cv count ch ⟨b - 1, m, best⟩ = some (if m < sumAt ws (covL ws cv ch) then ⟨b - 1, sumAt ws (covL ws cv ch), ch⟩ else ⟨b - 1, m, best⟩) := if_pos hc
    rw [el] at hr
    simp only at hr
    simp (config := { maxSteps := 1000000 }) +decide only [NoH, Old, OldL, nilQ, nilA, RechL, ReY, isNew, stepO, XPost, postN, XOk, updN, updU, isEff, avalue, aeff, ASt.eval, ASt.put, ASt.set, ASt.new, Nat.reduceDiv, Nat.reduceAdd, Int.reduceToNat, absV, absC, scalar, alen, acap, conc, flats, live, blkOf, aload, rd, part?, afieldAddr, afield, aindexAddr, cellsOf, afill, places, abuild, optI, asliceV, asliceS, szOk, srcCells, aappend, astore, amakeSlice, abuildSlice, snapL, mapO, treeL, AVal.tree, AVal.flatT, isFlat, ares, isFz, afroz, afrozB, lookupA, lookupH, tops, if_true, if_false, reduceCtorEq, forall_const, ite_true, ite_false, implies_true, walkS, tabS, Try.results34, hw0, eq_false hb, eq_true hc, htk, htb]
    refine callK (den_weight ws cv cs ch hch.idx (by omega)) (by first | exact .inl rfl | exact .inr rfl) ?_
    by_cases hm : m < sumAt ws (covL ws cv ch)
    · rw [if_pos hm] at hr
      subst hr
      simp (config := { maxSteps := 1000000 }) +decide only [NoH, Old, OldL, nilQ, nilA, RechL, ReY, isNew, stepO, XPost, postN, XOk, updN, updU, isEff, avalue, aeff, ASt.eval, ASt.put, ASt.set, ASt.new, Nat.reduceDiv, Nat.reduceAdd, Int.reduceToNat, absV, absC, scalar, alen, acap, conc, flats, live, blkOf, aload, rd, part?, afieldAddr, afield, aindexAddr, cellsOf, afill, places, abuild, optI, asliceV, asliceS, szOk, srcCells, aappend, astore, amakeSlice, abuildSlice, snapL, mapO, treeL, AVal.tree, AVal.flatT, isFlat, ares, isFz, afroz, afrozB, lookupA, lookupH, tops, if_true, if_false, reduceCtorEq, forall_const, ite_true, ite_false, implies_true, walkS, tabS, Try.results34, eq_true hm]
      refine callX (denx_Clone ch (by omega)) (by simp (config := { maxSteps := 1000000 }) +decide only [NoH, Old, OldL, nilQ, nilA, RechL, ReY, isNew, stepO, XPost, postN, XOk, updN, updU, isEff, avalue, aeff, ASt.eval, ASt.put, ASt.set, ASt.new, Nat.reduceDiv, Nat.reduceAdd, Int.reduceToNat, absV, absC, scalar, alen, acap, conc, flats, live, blkOf, aload, rd, part?, afieldAddr, afield, aindexAddr, cellsOf, afill, places, abuild, optI, asliceV, asliceS, szOk, srcCells, aappend, astore, amakeSlice, abuildSlice, snapL, mapO, treeL, AVal.tree, AVal.flatT, isFlat, ares, isFz, afroz, afrozB, lookupA, lookupH, tops, if_true, if_false, reduceCtorEq, forall_const, ite_true, ite_false, implies_true, walkS, tabS, Try.results34, htk, htb]) ?_
      simp (config := { maxSteps := 1000000 }) +decide only [NoH, Old, OldL, nilQ, nilA, RechL, ReY, isNew, stepO, XPost, postN, XOk, updN, updU, isEff, avalue, aeff, ASt.eval, ASt.put, ASt.set, ASt.new, Nat.reduceDiv, Nat.reduceAdd, Int.reduceToNat, absV, absC, scalar, alen, acap, conc, flats, live, blkOf, aload, rd, part?, afieldAddr, afield, aindexAddr, cellsOf, afill, places, abuild, optI, asliceV, asliceS, szOk, srcCells, aappend, astore, amakeSlice, abuildSlice, snapL, mapO, treeL, AVal.tree, AVal.flatT, isFlat, ares, isFz, afroz, afrozB, lookupA, lookupH, tops, if_true, if_false, reduceCtorEq, forall_const, ite_true, ite_false, implies_true, walkS, tabS, Try.results34, htk, htb, one_0]
    · rw [if_neg hm] at hr
      subst hr
      simp (config := { maxSteps := 1000000 }) +decide only [NoH, Old, OldL, nilQ, nilA, RechL, ReY, isNew, stepO, XPost, postN, XOk, updN, updU, isEff, avalue, aeff, ASt.eval, ASt.put, ASt.set, ASt.new, Nat.reduceDiv, Nat.reduceAdd, Int.reduceToNat, absV, absC, scalar, alen, acap, conc, flats, live, blkOf, aload, rd, part?, afieldAddr, afield, aindexAddr, cellsOf, afill, places, abuild, optI, asliceV, asliceS, szOk, srcCells, aappend, astore, amakeSlice, abuildSlice, snapL, mapO, treeL, AVal.tree, AVal.flatT, isFlat, ares, isFz, afroz, afrozB, lookupA, lookupH, tops, if_true, if_false, reduceCtorEq, forall_const, ite_true, ite_false, implies_true, walkS, tabS, Try.results34, eq_false hm, htk, htb, one_0]
  have el : leafC ws cv count ch ⟨b - 1, m, best⟩ = none := if_neg hc
  rw [el] at hr
  simp only at hr
  simp (config := { maxSteps := 1000000 }) +decide only [NoH, Old, OldL, nilQ, nilA, RechL, ReY, isNew, stepO, XPost, postN, XOk, updN, updU, isEff, avalue, aeff, ASt.eval, ASt.put, ASt.set, ASt.new, Nat.reduceDiv, Nat.reduceAdd, Int.reduceToNat, absV, absC, scalar, alen, acap, conc, flats, live, blkOf, aload, rd, part?, afieldAddr, afield, aindexAddr, cellsOf, afill, places, abuild, optI, asliceV, asliceS, szOk, srcCells, aappend, astore, amakeSlice, abuildSlice, snapL, mapO, treeL, AVal.tree, AVal.flatT, isFlat, ares, isFz, afroz, afrozB, lookupA, lookupH, tops, if_true, if_false, reduceCtorEq, forall_const, ite_true, ite_false, implies_true, walkS, tabS, Try.results34, hw0, eq_false hb, eq_false hc, htk, htb]
  refine callK (den_next ws cv cs ch best _ _ hch hn) (by first | exact .inl rfl | exact .inr rfl) ?_
  simp (config := { maxSteps := 1000000 }) +decide only [NoH, Old, OldL, nilQ, nilA, RechL, ReY, isNew, stepO, XPost, postN, XOk, updN, updU, isEff, avalue, aeff, ASt.eval, ASt.put, ASt.set, ASt.new, Nat.reduceDiv, Nat.reduceAdd, Int.reduceToNat, absV, absC, scalar, alen, acap, conc, flats, live, blkOf, aload, rd, part?, afieldAddr, afield, aindexAddr, cellsOf, afill, places, abuild, optI, asliceV, asliceS, szOk, srcCells, aappend, astore, amakeSlice, abuildSlice, snapL, mapO, treeL, AVal.tree, AVal.flatT, isFlat, ares, isFz, afroz, afrozB, lookupA, lookupH, tops, if_true, if_false, reduceCtorEq, forall_const, ite_true, ite_false, implies_true, walkS, tabS, Try.results34]
  have hr0 : kids (node (leafC ws cv count) cv.length f) ch (cv.length - nextOf ch) (nextOf ch) ⟨b - 1, m, best⟩ = r := hr
  have hsok : SOk ⟨b - 1, m, best⟩ := ⟨by show -1 ≤ b - 1; omega, by show b - 1 ≤ 20000; omega, hm1, hbl⟩
  refine ex_loop (fun p : {p : Nat × SS × Nat × Nat × Nat × List Int // nextOf ch ≤ p.1 ∧ p.1 ≤ cv.length ∧ SOk p.2.1 ∧ kids (node (leafC ws cv count) cv.length f) ch (cv.length - p.1) p.1 p.2.1 = r} => mkG (ghs [] [77]) [(0, .ptr 0 0 0), (1, .i count), (5, .i p.1.1)] [(0, ⟨0, 7, [ints ws, intss cv, ints cs, .i p.1.2.1.b, .own (Own.ch 0 4) p.1.2.2.1 0 ch.length, .own (Own.ch 0 5) p.1.2.2.2.1 0 p.1.2.1.best.length, .i p.1.2.1.m]⟩), (Own.ch 0 4, ⟨p.1.2.2.1, 1, mapC AVal.i (ch ++ p.1.2.2.2.2.2)⟩), (Own.ch 0 5, ⟨p.1.2.2.2.1, 1, mapC AVal.i p.1.2.1.best⟩)] p.1.2.2.2.2.1 98) (fun p => cv.length - p.1.1) ⟨(nextOf ch, ⟨b - 1, m, best⟩, 0, 0, 1, []), Nat.le_refl _, hnx, hsok, hr0⟩ ?_ ?_
  · refine weak_mk rfl (by first | exact Nat.le_refl _ | (simp only [mk_gen]; omega)) ?_ ?_ <;> simp +decide only [w_lookup_nil, w_lookup_cons, ch_ch, ch_lit, lit_ch, wkT, wkH, wkB, WVL, WV_refl', Int.natCast_zero, Int.natCast_add, Int.natCast_one, Nat.sub_self, Nat.sub_zero, List.replicate_zero, List.take_zero, List.nil_append, List.append_nil, fillC_zero, Nat.reduceDiv, Nat.reduceAdd, upd_bk, bk_at, getB_zero, getB_succ, modB_zero, modB_succ, rows_lit, repB_zero, repB_succ, List.length_cons, List.length_nil, upd_upd_same, upd_apply, mk_tmp, mk_heap, mk_gen, lookupA, lookupH, List.getD_cons_zero, List.getD_cons_succ, init_two, tops, Bool.true_and, and_self, and_true, true_and, true_or, if_true, if_false, ite_true, ite_false, reduceCtorEq, reduceIte, List.append_nil]
  rintro ⟨⟨c, s, g4, g5, G, tl⟩, q1, q2, q3, q4⟩
  have q1' : nextOf ch ≤ c := q1
  have q2' : c ≤ cv.length := q2
  have q3' : SOk s := q3
  have q4' : kids (node (leafC ws cv count) cv.length f) ch (cv.length - c) c s = r := q4
  have htl : List.take ch.length (ch ++ tl) = ch := by rw [List.take_append_of_le_length (Nat.le_refl _), List.take_length]
  have hll : (ch ++ tl).length = ch.length + tl.length := List.length_append
  obtain ⟨sb, sm, sbest⟩ := s
  have s1 := q3'.lo
  have s2 := q3'.hi
  have s4 := q3'.best
  simp only at s1 s2 s4
  have hts : List.take sbest.length sbest = sbest := List.take_of_length_le (by omega)
  by_cases clt : c < cv.length
  case neg =>
    have e : cv.length - c = 0 := by omega
    rw [e] at q4'
    unfold kids at q4'
    subst q4'
    simp (config := { maxSteps := 1000000 }) +decide only [NoH, Old, OldL, nilQ, nilA, RechL, ReY, isNew, stepO, XPost, postN, XOk, updN, updU, isEff, avalue, aeff, ASt.eval, ASt.put, ASt.set, ASt.new, Nat.reduceDiv, Nat.reduceAdd, Int.reduceToNat, absV, absC, scalar, alen, acap, conc, flats, live, blkOf, aload, rd, part?, afieldAddr, afield, aindexAddr, cellsOf, afill, places, abuild, optI, asliceV, asliceS, szOk, srcCells, aappend, astore, amakeSlice, abuildSlice, snapL, mapO, treeL, AVal.tree, AVal.flatT, isFlat, ares, isFz, afroz, afrozB, lookupA, lookupH, tops, if_true, if_false, reduceCtorEq, forall_const, ite_true, ite_false, implies_true, walkS, tabS, Try.results34, clt, htl, hll, hts, one_0, Nat.le_add_right]
  by_cases hb0 : 0 ≤ sb
  case neg =>
    have e : cv.length - c = (cv.length - (c + 1)) + 1 := by omega
    rw [e] at q4'
    unfold kids at q4'
    simp only at q4'
    rw [if_pos (show sb < 0 by omega)] at q4'
    subst q4'
    simp (config := { maxSteps := 1000000 }) +decide only [NoH, Old, OldL, nilQ, nilA, RechL, ReY, isNew, stepO, XPost, postN, XOk, updN, updU, isEff, avalue, aeff, ASt.eval, ASt.put, ASt.set, ASt.new, Nat.reduceDiv, Nat.reduceAdd, Int.reduceToNat, absV, absC, scalar, alen, acap, conc, flats, live, blkOf, aload, rd, part?, afieldAddr, afield, aindexAddr, cellsOf, afill, places, abuild, optI, asliceV, asliceS, szOk, srcCells, aappend, astore, amakeSlice, abuildSlice, snapL, mapO, treeL, AVal.tree, AVal.flatT, isFlat, ares, isFz, afroz, afrozB, lookupA, lookupH, tops, if_true, if_false, reduceCtorEq, forall_const, ite_true, ite_false, implies_true, walkS, tabS, Try.results34, clt, eq_false hb0, htl, hll, hts, one_0, Nat.le_add_right]
  have e : cv.length - c = (cv.length - (c + 1)) + 1 := by omega
  rw [e] at q4'
  unfold kids at q4'
  simp only at q4'
  rw [if_neg (show ¬ sb < 0 by omega)] at q4'
  have hc1 := chn_snoc hch q1' clt
  have hx := ih (ch ++ [(c : Int)]) ⟨sb, sm, sbest⟩ (by rw [nextOf_snoc]; omega) hc1 hb0 q3'
  have hk := node_ok (leafC_ok ws cv count) hn f (ch ++ [(c : Int)]) ⟨sb, sm, sbest⟩ hc1 hb0 q3'
  generalize node (leafC ws cv count) cv.length f (ch ++ [(c : Int)]) ⟨sb, sm, sbest⟩ = s' at hx hk q4'
  obtain ⟨tb, tm, tbest⟩ := s'
  have hwc : IntKind.i64.wrap ((c : Int) + 1) = ((c + 1 : Nat) : Int) := wrap64 (by omega) (by omega)
  have h8 : (ch.length + 1) * 8 ≤ 140737488355328 := by omega
  have hlc : (ch ++ [(c : Int)]).length = ch.length + 1 := by simp
  have htc : List.take (ch.length + 1) (ch ++ [(c : Int)]) = ch ++ [(c : Int)] := List.take_of_length_le (by omega)
  have hwl : IntKind.i64.wrap (((ch.length + 1 : Nat) : Int) - 1) = (ch.length : Int) := (wrap64 (by omega) (by omega)).trans (by omega)
  have hl1 : ch.length ≤ ch.length + 1 := by omega
  simp only [seT, xints, hlc] at hx
  simp (config := { maxSteps := 1000000 }) +decide only [NoH, Old, OldL, nilQ, nilA, RechL, ReY, isNew, stepO, XPost, postN, XOk, updN, updU, isEff, avalue, aeff, ASt.eval, ASt.put, ASt.set, ASt.new, Nat.reduceDiv, Nat.reduceAdd, Int.reduceToNat, absV, absC, scalar, alen, acap, conc, flats, live, blkOf, aload, rd, part?, afieldAddr, afield, aindexAddr, cellsOf, afill, places, abuild, optI, asliceV, asliceS, szOk, srcCells, aappend, astore, amakeSlice, abuildSlice, snapL, mapO, treeL, AVal.tree, AVal.flatT, isFlat, ares, isFz, afroz, afrozB, lookupA, lookupH, tops, if_true, if_false, reduceCtorEq, forall_const, ite_true, ite_false, implies_true, walkS, tabS, Try.results34, clt, hb0, hwc, h8, htl, hll, hts, Nat.le_add_right, List.replicate_succ, List.flatten_cons, List.flatten_nil, mapC_snoc]
  have hl2 : ch.length < ch.length + 1 := by omega
  refine callX (hx) (by simp (config := { maxSteps := 1000000 }) +decide only [NoH, Old, OldL, nilQ, nilA, RechL, ReY, isNew, stepO, XPost, postN, XOk, updN, updU, isEff, avalue, aeff, ASt.eval, ASt.put, ASt.set, ASt.new, Nat.reduceDiv, Nat.reduceAdd, Int.reduceToNat, absV, absC, scalar, alen, acap, conc, flats, live, blkOf, aload, rd, part?, afieldAddr, afield, aindexAddr, cellsOf, afill, places, abuild, optI, asliceV, asliceS, szOk, srcCells, aappend, astore, amakeSlice, abuildSlice, snapL, mapO, treeL, AVal.tree, AVal.flatT, isFlat, ares, isFz, afroz, afrozB, lookupA, lookupH, tops, if_true, if_false, reduceCtorEq, forall_const, ite_true, ite_false, implies_true, walkS, tabS, Try.results34, hlc, htc, hts, htl, hl2]) ?_
  simp (config := { maxSteps := 1000000 }) +decide only [NoH, Old, OldL, nilQ, nilA, RechL, ReY, isNew, stepO, XPost, postN, XOk, updN, updU, isEff, avalue, aeff, ASt.eval, ASt.put, ASt.set, ASt.new, Nat.reduceDiv, Nat.reduceAdd, Int.reduceToNat, absV, absC, scalar, alen, acap, conc, flats, live, blkOf, aload, rd, part?, afieldAddr, afield, aindexAddr, cellsOf, afill, places, abuild, optI, asliceV, asliceS, szOk, srcCells, aappend, astore, amakeSlice, abuildSlice, snapL, mapO, treeL, AVal.tree, AVal.flatT, isFlat, ares, isFz, afroz, afrozB, lookupA, lookupH, tops, if_true, if_false, reduceCtorEq, forall_const, ite_true, ite_false, implies_true, walkS, tabS, Try.results34, hwc, hwl, hlc, htc, hl1, hl2, Nat.zero_le]
  refine ⟨⟨(c + 1, ⟨tb, tm, tbest⟩, G + 1, G + 1, G + 2, [(c : Int)]), by show nextOf ch ≤ c + 1; omega, clt, hk, q4'⟩, ?_, by show _ - (c + 1) < _ - c; omega⟩
  refine weak_mk rfl (by first | exact Nat.le_refl _ | (simp only [mk_gen]; omega)) ?_ ?_ <;> simp +decide only [w_lookup_nil, w_lookup_cons, ch_ch, ch_lit, lit_ch, wkT, wkH, wkB, WVL, WV_refl', Int.natCast_zero, Int.natCast_add, Int.natCast_one, Nat.sub_self, Nat.sub_zero, List.replicate_zero, List.take_zero, List.nil_append, List.append_nil, fillC_zero, Nat.reduceDiv, Nat.reduceAdd, upd_bk, bk_at, getB_zero, getB_succ, modB_zero, modB_succ, rows_lit, repB_zero, repB_succ, List.length_cons, List.length_nil, upd_upd_same, upd_apply, mk_tmp, mk_heap, mk_gen, lookupA, lookupH, List.getD_cons_zero, List.getD_cons_succ, init_two, tops, Bool.true_and, and_self, and_true, true_and, true_or, if_true, if_false, ite_true, ite_false, reduceCtorEq, reduceIte]
theorem denx_choose (ws : List Int) (cv : List (List Int)) (cs : List Int) (count : Int) (hw : ws.length ≤ 64) (hn : cv.length ≤ 20) : ∀ (f : Nat) (ch : List Int) (s : SS), cv.length - nextOf ch < f → Chn cv ch → 0 ≤ s.b → SOk s →
    DenX Try.prog 34 [seT ws cv cs ch s, xi count] [seT ws cv cs ch (node (leafC ws cv count) cv.length f ch s), xi count] (.tup [])
  | 0, _, _, h, _, _, _ => absurd h (Nat.not_lt_zero _)
  | f + 1, ch, s, hf, hch, h0, hs => denx_chooseStep ws cv cs count hw hn f (fun ch s a b c d => denx_choose ws cv cs count hw hn f ch s a b c d) ch s hf hch h0 hs
end Go.Proofs.Ytocbojbgadcpcaa
