/-
  OWN WORK: the reference's search for the cheapest cover.
-/
import Derived.Test.YtjfjomnlckdjgaaSiJ
namespace Go.Proofs.Ytjfjomnlckdjgaa
open Go Go.Own Go.Proofs
set_option maxHeartbeats 4000000
set_option maxRecDepth 20000
set_option linter.unusedSimpArgs false
theorem den_l22All (ws : List Int) (cv : List (List Int)) (cs ch : List Int) (hr : InRows ws cv) (hi : Idx cv ch) (hb : ws.length ≤ 1000000) : Den Try.prog 81 [sitP ws cv cs, ints ch] (.b (bp ((covL ws cv ch).length = ws.length))) := by
  refine den_of_awp Try.func81 rfl (by kernel_rfl) (Nat.le_of_ble_eq_true rfl) (by simp only [treeL, AVal.tree, treeL_i, treeL_ints, treeL_append, Bool.and_self, Bool.and_true, Bool.true_and]) (by first | rfl | simp only [treeL, AVal.tree, treeL_i, treeL_ints, treeL_append, Bool.and_self, Bool.and_true, Bool.true_and]) mixed (by kernel_rfl) fun hl => ?_
  simp only [lensL, lens, lensL_i, lensL_mapC, maxI, and_true, true_and] at hl
  rw [Try.ntmps81]
  refine ex_start ?_
  simp (config := {decide := true, maxSteps := 1000000}) only [NoH, nilQ, nilA, RechL, ReY, isNew, stepO, XPost, postN, XOk, updN, updU, isEff, avalue, aeff, ASt.eval, ASt.put, ASt.set, ASt.new, Nat.reduceDiv, Nat.reduceAdd, Int.reduceToNat, absV, absC, scalar, alen, acap, conc, flats, live, blkOf, aload, rd, part?, afieldAddr, afield, aindexAddr, cellsOf, afill, places, abuild, optI, asliceV, asliceS, szOk, srcCells, aappend, astore, amakeSlice, abuildSlice, snapL, mapO, treeL, AVal.tree, AVal.flatT, isFlat, ares, isFz, afroz, afrozB, lookupA, lookupH, tops, if_true, if_false, reduceCtorEq, forall_const, ite_true, ite_false, implies_true, walkS, tabS, Try.results81]
  refine callK (den_l22Covered ws cv cs ch hr hi hb) (by first | exact .inl rfl | exact .inr rfl) ?_
  simp (config := {decide := true, maxSteps := 1000000}) only [NoH, nilQ, nilA, RechL, ReY, isNew, stepO, XPost, postN, XOk, updN, updU, isEff, avalue, aeff, ASt.eval, ASt.put, ASt.set, ASt.new, Nat.reduceDiv, Nat.reduceAdd, Int.reduceToNat, absV, absC, scalar, alen, acap, conc, flats, live, blkOf, aload, rd, part?, afieldAddr, afield, aindexAddr, cellsOf, afill, places, abuild, optI, asliceV, asliceS, szOk, srcCells, aappend, astore, amakeSlice, abuildSlice, snapL, mapO, treeL, AVal.tree, AVal.flatT, isFlat, ares, isFz, afroz, afrozB, lookupA, lookupH, tops, if_true, if_false, reduceCtorEq, forall_const, ite_true, ite_false, implies_true, walkS, tabS, Try.results81]
  rw [bp_decide]
theorem denx_leastStep (ws : List Int) (cv : List (List Int)) (cs : List Int) (B count : Int) (hsit : OkSit ws cv cs) (hB : B ≤ 20000) (hB1 : 1 ≤ B) (f : Nat)
    (ih : ∀ (ch : List Int) (s : SS), cv.length - nextOf ch < f → Chn cv ch → 0 ≤ s.b → SOk s → DenX Try.prog 79 [yT ws cv cs B count ch s, xi (nextOf ch)] [yT ws cv cs B count ch (node (leafV ws cv cs) cv.length f ch s), xi (nextOf ch)] (xb (bp (0 ≤ (node (leafV ws cv cs) cv.length f ch s).b))))
    (ch : List Int) (s : SS) (hf : cv.length - nextOf ch < f + 1) (hch : Chn cv ch) (h0 : 0 ≤ s.b) (hs : SOk s) : DenX Try.prog 79 [yT ws cv cs B count ch s, xi (nextOf ch)] [yT ws cv cs B count ch (node (leafV ws cv cs) cv.length (f + 1) ch s), xi (nextOf ch)] (xb (bp (0 ≤ (node (leafV ws cv cs) cv.length (f + 1) ch s).b))) := by
  have hn := hsit.c2
  have hw := hsit.w2
  obtain ⟨b, m, best⟩ := s
  have hlo := hs.lo
  have hhi := hs.hi
  have hm1 := hs.m
  have hbl := hs.best
  have hle := hch.le
  have hnx := hch.nx
  simp only at h0 hlo hhi hm1 hbl
  have hw0 : IntKind.i64.wrap (B - b + 1) = B - (b - 1) := (wrap64 (by omega) (by omega)).trans (by omega)
  generalize hr : node (leafV ws cv cs) cv.length (f + 1) ch ⟨b, m, best⟩ = r
  unfold node at hr
  simp only at hr
  have htk : List.take ch.length ch = ch := List.take_of_length_le (by omega)
  have htb : List.take best.length best = best := List.take_of_length_le (by omega)
  refine denx_of_awpG (ghs [] [88]) Try.func79 rfl (by kernel_rfl) (Nat.le_of_ble_eq_true rfl) (by simp (config := {decide := true}) only [w_embA_nil, w_embA_cons, w_emb_v, w_emb_ol, w_emb_op, w_emb_agg, w_emb_tup, w_embL_nil, w_embL_cons, embL_i, List.map_cons, List.map_nil, List.nil_append, List.append_nil, List.cons_append, List.nodup_cons, List.nodup_nil, List.mem_cons, List.mem_nil_iff, List.not_mem_nil, ch_ch, ch_lit, lit_ch, Nat.reduceAdd]) mixed (by kernel_rfl) fun hl => ?_
  simp only [xlensL, xlens, lensL, lens, lensL_i, lensL_mapC, xlensL_i, maxI, and_true, true_and] at hl
  rw [Try.ntmps79]
  refine ex_start ?_
  by_cases hb : b - 1 < 0
  · rw [if_pos hb] at hr
    subst hr
    have hb' : B < B - (b - 1) := by omega
    have hb2 : ¬ 0 ≤ b - 1 := by omega
    simp (config := {decide := true, maxSteps := 1000000}) only [NoH, nilQ, nilA, RechL, ReY, isNew, stepO, XPost, postN, XOk, updN, updU, isEff, avalue, aeff, ASt.eval, ASt.put, ASt.set, ASt.new, Nat.reduceDiv, Nat.reduceAdd, Int.reduceToNat, absV, absC, scalar, alen, acap, conc, flats, live, blkOf, aload, rd, part?, afieldAddr, afield, aindexAddr, cellsOf, afill, places, abuild, optI, asliceV, asliceS, szOk, srcCells, aappend, astore, amakeSlice, abuildSlice, snapL, mapO, treeL, AVal.tree, AVal.flatT, isFlat, ares, isFz, afroz, afrozB, lookupA, lookupH, tops, if_true, if_false, reduceCtorEq, forall_const, ite_true, ite_false, implies_true, walkS, tabS, Try.results79, hw0, eq_true hb', eq_false hb2, htk, htb]
  rw [if_neg hb] at hr
  have hb' : ¬ B < B - (b - 1) := by omega
  have hb2 : 0 ≤ b - 1 := by omega
  have hix : ∀ i (h : i < ch.length), ∃ n : Nat, ch[i] = n ∧ n < cs.length := fun i hi => by rw [hsit.len]; exact hch.idx i hi
  have hW := cost_nonneg hsit (ch := ch) (by omega)
  simp (config := {decide := true, maxSteps := 1000000}) only [NoH, nilQ, nilA, RechL, ReY, isNew, stepO, XPost, postN, XOk, updN, updU, isEff, avalue, aeff, ASt.eval, ASt.put, ASt.set, ASt.new, Nat.reduceDiv, Nat.reduceAdd, Int.reduceToNat, absV, absC, scalar, alen, acap, conc, flats, live, blkOf, aload, rd, part?, afieldAddr, afield, aindexAddr, cellsOf, afill, places, abuild, optI, asliceV, asliceS, szOk, srcCells, aappend, astore, amakeSlice, abuildSlice, snapL, mapO, treeL, AVal.tree, AVal.flatT, isFlat, ares, isFz, afroz, afrozB, lookupA, lookupH, tops, if_true, if_false, reduceCtorEq, forall_const, ite_true, ite_false, implies_true, walkS, tabS, Try.results79, hw0, eq_false hb', htk, htb]
  refine callK (den_l22Cost ws cv cs ch hix) (by first | exact .inl rfl | exact .inr rfl) ?_
  have hai := all_iff ws cv ch
  generalize hco : sumAt cs ch = co at hW
  have evW : vl co = co := if_neg (by omega)
  by_cases hm : 0 ≤ m ∧ m ≤ co
  · have el : leafV ws cv cs ch ⟨b - 1, m, best⟩ = some ⟨b - 1, m, best⟩ := by
      unfold leafV
      rw [hco]
      by_cases hcc : (plW ws cv ch false).length = 0
      · rw [if_pos hcc, if_neg (show ¬ (m < 0 ∨ co < m) by omega)]
      · rw [if_neg hcc, if_pos hm]
    rw [el] at hr
    simp only at hr
    subst hr
    have evm : vl m = m := if_neg (by omega)
    simp (config := {decide := true, maxSteps := 1000000}) only [NoH, nilQ, nilA, RechL, ReY, isNew, stepO, XPost, postN, XOk, updN, updU, isEff, avalue, aeff, ASt.eval, ASt.put, ASt.set, ASt.new, Nat.reduceDiv, Nat.reduceAdd, Int.reduceToNat, absV, absC, scalar, alen, acap, conc, flats, live, blkOf, aload, rd, part?, afieldAddr, afield, aindexAddr, cellsOf, afill, places, abuild, optI, asliceV, asliceS, szOk, srcCells, aappend, astore, amakeSlice, abuildSlice, snapL, mapO, treeL, AVal.tree, AVal.flatT, isFlat, ares, isFz, afroz, afrozB, lookupA, lookupH, tops, if_true, if_false, reduceCtorEq, forall_const, ite_true, ite_false, implies_true, walkS, tabS, Try.results79, eq_true hm.1, evm, eq_true hm.2, htk, htb, hb2]
  have evm' : 0 ≤ m → vl m = m := fun h => if_neg (by omega)
  have hgo : 0 ≤ m → vl m = m ∧ ¬ m ≤ co := fun h => ⟨if_neg (by omega), fun h2 => hm ⟨h, h2⟩⟩
  by_cases hma : 0 ≤ m
  case' pos =>
    obtain ⟨evm, hmb⟩ := hgo hma
    simp (config := {decide := true, maxSteps := 1000000}) only [NoH, nilQ, nilA, RechL, ReY, isNew, stepO, XPost, postN, XOk, updN, updU, isEff, avalue, aeff, ASt.eval, ASt.put, ASt.set, ASt.new, Nat.reduceDiv, Nat.reduceAdd, Int.reduceToNat, absV, absC, scalar, alen, acap, conc, flats, live, blkOf, aload, rd, part?, afieldAddr, afield, aindexAddr, cellsOf, afill, places, abuild, optI, asliceV, asliceS, szOk, srcCells, aappend, astore, amakeSlice, abuildSlice, snapL, mapO, treeL, AVal.tree, AVal.flatT, isFlat, ares, isFz, afroz, afrozB, lookupA, lookupH, tops, if_true, if_false, reduceCtorEq, forall_const, ite_true, ite_false, implies_true, walkS, tabS, Try.results79, eq_true hma, evm, eq_false hmb, htk, htb]
  case' neg =>
    simp (config := {decide := true, maxSteps := 1000000}) only [NoH, nilQ, nilA, RechL, ReY, isNew, stepO, XPost, postN, XOk, updN, updU, isEff, avalue, aeff, ASt.eval, ASt.put, ASt.set, ASt.new, Nat.reduceDiv, Nat.reduceAdd, Int.reduceToNat, absV, absC, scalar, alen, acap, conc, flats, live, blkOf, aload, rd, part?, afieldAddr, afield, aindexAddr, cellsOf, afill, places, abuild, optI, asliceV, asliceS, szOk, srcCells, aappend, astore, amakeSlice, abuildSlice, snapL, mapO, treeL, AVal.tree, AVal.flatT, isFlat, ares, isFz, afroz, afrozB, lookupA, lookupH, tops, if_true, if_false, reduceCtorEq, forall_const, ite_true, ite_false, implies_true, walkS, tabS, Try.results79, eq_false hma, htk, htb]
  all_goals
    refine callK (den_l22All ws cv cs ch hsit.row hch.idx (by omega)) (by first | exact .inl rfl | exact .inr rfl) ?_
    by_cases hc : (covL ws cv ch).length = ws.length
    · have el : leafV ws cv cs ch ⟨b - 1, m, best⟩ = some ⟨b - 1, co, ch⟩ := by
        unfold leafV
        rw [if_pos (hai.1 hc), hco, if_pos (show m < 0 ∨ co < m by omega)]
      rw [el] at hr
      simp only at hr
      subst hr
      simp (config := {decide := true, maxSteps := 1000000}) only [NoH, nilQ, nilA, RechL, ReY, isNew, stepO, XPost, postN, XOk, updN, updU, isEff, avalue, aeff, ASt.eval, ASt.put, ASt.set, ASt.new, Nat.reduceDiv, Nat.reduceAdd, Int.reduceToNat, absV, absC, scalar, alen, acap, conc, flats, live, blkOf, aload, rd, part?, afieldAddr, afield, aindexAddr, cellsOf, afill, places, abuild, optI, asliceV, asliceS, szOk, srcCells, aappend, astore, amakeSlice, abuildSlice, snapL, mapO, treeL, AVal.tree, AVal.flatT, isFlat, ares, isFz, afroz, afrozB, lookupA, lookupH, tops, if_true, if_false, reduceCtorEq, forall_const, ite_true, ite_false, implies_true, walkS, tabS, Try.results79, eq_true hc]
      refine callX (denx_l00Own ch (by omega)) (by simp (config := {decide := true, maxSteps := 1000000}) only [NoH, nilQ, nilA, RechL, ReY, isNew, stepO, XPost, postN, XOk, updN, updU, isEff, avalue, aeff, ASt.eval, ASt.put, ASt.set, ASt.new, Nat.reduceDiv, Nat.reduceAdd, Int.reduceToNat, absV, absC, scalar, alen, acap, conc, flats, live, blkOf, aload, rd, part?, afieldAddr, afield, aindexAddr, cellsOf, afill, places, abuild, optI, asliceV, asliceS, szOk, srcCells, aappend, astore, amakeSlice, abuildSlice, snapL, mapO, treeL, AVal.tree, AVal.flatT, isFlat, ares, isFz, afroz, afrozB, lookupA, lookupH, tops, if_true, if_false, reduceCtorEq, forall_const, ite_true, ite_false, implies_true, walkS, tabS, Try.results79, htk, htb]) ?_
      simp (config := {decide := true, maxSteps := 1000000}) only [NoH, nilQ, nilA, RechL, ReY, isNew, stepO, XPost, postN, XOk, updN, updU, isEff, avalue, aeff, ASt.eval, ASt.put, ASt.set, ASt.new, Nat.reduceDiv, Nat.reduceAdd, Int.reduceToNat, absV, absC, scalar, alen, acap, conc, flats, live, blkOf, aload, rd, part?, afieldAddr, afield, aindexAddr, cellsOf, afill, places, abuild, optI, asliceV, asliceS, szOk, srcCells, aappend, astore, amakeSlice, abuildSlice, snapL, mapO, treeL, AVal.tree, AVal.flatT, isFlat, ares, isFz, afroz, afrozB, lookupA, lookupH, tops, if_true, if_false, reduceCtorEq, forall_const, ite_true, ite_false, implies_true, walkS, tabS, Try.results79, htk, htb, evW, eq_true hW, hb2]
    have el : leafV ws cv cs ch ⟨b - 1, m, best⟩ = none := by
      unfold leafV
      rw [if_neg (fun h => hc (hai.2 h)), hco, if_neg hm]
    rw [el] at hr
    simp only at hr
    simp (config := {decide := true, maxSteps := 1000000}) only [NoH, nilQ, nilA, RechL, ReY, isNew, stepO, XPost, postN, XOk, updN, updU, isEff, avalue, aeff, ASt.eval, ASt.put, ASt.set, ASt.new, Nat.reduceDiv, Nat.reduceAdd, Int.reduceToNat, absV, absC, scalar, alen, acap, conc, flats, live, blkOf, aload, rd, part?, afieldAddr, afield, aindexAddr, cellsOf, afill, places, abuild, optI, asliceV, asliceS, szOk, srcCells, aappend, astore, amakeSlice, abuildSlice, snapL, mapO, treeL, AVal.tree, AVal.flatT, isFlat, ares, isFz, afroz, afrozB, lookupA, lookupH, tops, if_true, if_false, reduceCtorEq, forall_const, ite_true, ite_false, implies_true, walkS, tabS, Try.results79, eq_false hc, htk, htb]
    have hr0 : kids (node (leafV ws cv cs) cv.length f) ch (cv.length - nextOf ch) (nextOf ch) ⟨b - 1, m, best⟩ = r := hr
    have hsok : SOk ⟨b - 1, m, best⟩ := ⟨by show -1 ≤ b - 1; omega, by show b - 1 ≤ 20000; omega, hm1, hbl⟩
    refine ex_loop (fun p : {p : Nat × SS × Nat × Nat × Nat × List Int // nextOf ch ≤ p.1 ∧ p.1 ≤ cv.length ∧ (0 ≤ p.2.1.b ∧ SOk p.2.1) ∧ kids (node (leafV ws cv cs) cv.length f) ch (cv.length - p.1) p.1 p.2.1 = r} => mkG (ghs [] [88]) [(0, .ptr 0 0 0), (6, .i p.1.1)] [(0, ⟨0, 8, [sitP ws cv cs, .i count, .own (Own.ch 0 2) p.1.2.2.1 0 ch.length, .own (Own.ch 0 3) p.1.2.2.2.1 0 p.1.2.1.best.length, .i (vl p.1.2.1.m), .b (bp (0 ≤ p.1.2.1.m)), .i (B - p.1.2.1.b), .i B]⟩), (Own.ch 0 2, ⟨p.1.2.2.1, 1, mapC AVal.i (ch ++ p.1.2.2.2.2.2)⟩), (Own.ch 0 3, ⟨p.1.2.2.2.1, 1, mapC AVal.i p.1.2.1.best⟩)] p.1.2.2.2.2.1 112) (fun p => cv.length - p.1.1) ⟨(nextOf ch, ⟨b - 1, m, best⟩, 0, 0, 1, []), Nat.le_refl _, hnx, ⟨hb2, hsok⟩, hr0⟩ ?_ ?_
    · refine weak_mk rfl (by first | exact Nat.le_refl _ | (simp only [mk_gen]; omega)) ?_ ?_ <;> simp (config := {decide := true}) only [w_lookup_nil, w_lookup_cons, ch_ch, ch_lit, lit_ch, wkT, wkH, wkB, WVL, WV_refl', Int.natCast_zero, Int.natCast_add, Int.natCast_one, Nat.sub_self, Nat.sub_zero, List.replicate_zero, List.take_zero, List.nil_append, List.append_nil, fillC_zero, Nat.reduceDiv, Nat.reduceAdd, upd_bk, bk_at, getB_zero, getB_succ, modB_zero, modB_succ, rows_lit, repB_zero, repB_succ, List.length_cons, List.length_nil, upd_upd_same, upd_apply, mk_tmp, mk_heap, mk_gen, lookupA, lookupH, List.getD_cons_zero, List.getD_cons_succ, init_two, tops, Bool.true_and, and_self, and_true, true_and, true_or, if_true, if_false, ite_true, ite_false, reduceCtorEq, reduceIte, List.append_nil, hma, evm']
    rintro ⟨⟨c, s, g4, g5, G, tl⟩, q1, q2, q3, q4⟩
    have q1' : nextOf ch ≤ c := q1
    have q2' : c ≤ cv.length := q2
    have q3' : 0 ≤ s.b ∧ SOk s := q3
    have q4' : kids (node (leafV ws cv cs) cv.length f) ch (cv.length - c) c s = r := q4
    have htl : List.take ch.length (ch ++ tl) = ch := by rw [List.take_append_of_le_length (Nat.le_refl _), List.take_length]
    have hll : (ch ++ tl).length = ch.length + tl.length := List.length_append
    obtain ⟨sb, sm, sbest⟩ := s
    have s0 := q3'.1
    have s2 := q3'.2.hi
    have s4 := q3'.2.best
    simp only at s0 s2 s4
    have hts : List.take sbest.length sbest = sbest := List.take_of_length_le (by omega)
    by_cases clt : c < cv.length
    case neg =>
      have e : cv.length - c = 0 := by omega
      rw [e] at q4'
      unfold kids at q4'
      subst q4'
      simp (config := {decide := true, maxSteps := 1000000}) only [NoH, nilQ, nilA, RechL, ReY, isNew, stepO, XPost, postN, XOk, updN, updU, isEff, avalue, aeff, ASt.eval, ASt.put, ASt.set, ASt.new, Nat.reduceDiv, Nat.reduceAdd, Int.reduceToNat, absV, absC, scalar, alen, acap, conc, flats, live, blkOf, aload, rd, part?, afieldAddr, afield, aindexAddr, cellsOf, afill, places, abuild, optI, asliceV, asliceS, szOk, srcCells, aappend, astore, amakeSlice, abuildSlice, snapL, mapO, treeL, AVal.tree, AVal.flatT, isFlat, ares, isFz, afroz, afrozB, lookupA, lookupH, tops, if_true, if_false, reduceCtorEq, forall_const, ite_true, ite_false, implies_true, walkS, tabS, Try.results79, clt, htl, hll, hts, s0, Nat.le_add_right]
    have e : cv.length - c = (cv.length - (c + 1)) + 1 := by omega
    rw [e] at q4'
    unfold kids at q4'
    simp only at q4'
    rw [if_neg (show ¬ sb < 0 by omega)] at q4'
    have hc1 := chn_snoc hch q1' clt
    have hx := ih (ch ++ [(c : Int)]) ⟨sb, sm, sbest⟩ (by rw [nextOf_snoc]; omega) hc1 s0 q3'.2
    have hk := node_ok (leafV_ok hsit) hn f (ch ++ [(c : Int)]) ⟨sb, sm, sbest⟩ hc1 s0 q3'.2
    generalize node (leafV ws cv cs) cv.length f (ch ++ [(c : Int)]) ⟨sb, sm, sbest⟩ = s' at hx hk q4'
    obtain ⟨tb, tm, tbest⟩ := s'
    have t4 := hk.best
    simp only at t4
    have htt : List.take tbest.length tbest = tbest := List.take_of_length_le (by omega)
    have hwc : IntKind.i64.wrap ((c : Int) + 1) = ((c + 1 : Nat) : Int) := wrap64 (by omega) (by omega)
    have h8 : (ch.length + 1) * 8 ≤ 140737488355328 := by omega
    have hlc : (ch ++ [(c : Int)]).length = ch.length + 1 := by simp
    have htc : List.take (ch.length + 1) (ch ++ [(c : Int)]) = ch ++ [(c : Int)] := List.take_of_length_le (by omega)
    have htd : List.take ch.length (ch ++ [(c : Int)]) = ch := by rw [List.take_append_of_le_length (Nat.le_refl _), List.take_length]
    have hwl : IntKind.i64.wrap (((ch.length + 1 : Nat) : Int) - 1) = (ch.length : Int) := (wrap64 (by omega) (by omega)).trans (by omega)
    have hl1 : ch.length ≤ ch.length + 1 := by omega
    have hl2 : ch.length < ch.length + 1 := by omega
    simp only [yT, xints, hlc, nextOf_snoc] at hx
    simp (config := {decide := true, maxSteps := 1000000}) only [NoH, nilQ, nilA, RechL, ReY, isNew, stepO, XPost, postN, XOk, updN, updU, isEff, avalue, aeff, ASt.eval, ASt.put, ASt.set, ASt.new, Nat.reduceDiv, Nat.reduceAdd, Int.reduceToNat, absV, absC, scalar, alen, acap, conc, flats, live, blkOf, aload, rd, part?, afieldAddr, afield, aindexAddr, cellsOf, afill, places, abuild, optI, asliceV, asliceS, szOk, srcCells, aappend, astore, amakeSlice, abuildSlice, snapL, mapO, treeL, AVal.tree, AVal.flatT, isFlat, ares, isFz, afroz, afrozB, lookupA, lookupH, tops, if_true, if_false, reduceCtorEq, forall_const, ite_true, ite_false, implies_true, walkS, tabS, Try.results79, clt, hwc, h8, htl, hll, hts, Nat.le_add_right, List.replicate_succ, List.flatten_cons, List.flatten_nil, mapC_snoc]
    refine callX (hx) (by simp (config := {decide := true, maxSteps := 1000000}) only [NoH, nilQ, nilA, RechL, ReY, isNew, stepO, XPost, postN, XOk, updN, updU, isEff, avalue, aeff, ASt.eval, ASt.put, ASt.set, ASt.new, Nat.reduceDiv, Nat.reduceAdd, Int.reduceToNat, absV, absC, scalar, alen, acap, conc, flats, live, blkOf, aload, rd, part?, afieldAddr, afield, aindexAddr, cellsOf, afill, places, abuild, optI, asliceV, asliceS, szOk, srcCells, aappend, astore, amakeSlice, abuildSlice, snapL, mapO, treeL, AVal.tree, AVal.flatT, isFlat, ares, isFz, afroz, afrozB, lookupA, lookupH, tops, if_true, if_false, reduceCtorEq, forall_const, ite_true, ite_false, implies_true, walkS, tabS, Try.results79, hlc, htc, hts, htl, hl2]) ?_
    by_cases ht : 0 ≤ tb
    · simp (config := {decide := true, maxSteps := 1000000}) only [NoH, nilQ, nilA, RechL, ReY, isNew, stepO, XPost, postN, XOk, updN, updU, isEff, avalue, aeff, ASt.eval, ASt.put, ASt.set, ASt.new, Nat.reduceDiv, Nat.reduceAdd, Int.reduceToNat, absV, absC, scalar, alen, acap, conc, flats, live, blkOf, aload, rd, part?, afieldAddr, afield, aindexAddr, cellsOf, afill, places, abuild, optI, asliceV, asliceS, szOk, srcCells, aappend, astore, amakeSlice, abuildSlice, snapL, mapO, treeL, AVal.tree, AVal.flatT, isFlat, ares, isFz, afroz, afrozB, lookupA, lookupH, tops, if_true, if_false, reduceCtorEq, forall_const, ite_true, ite_false, implies_true, walkS, tabS, Try.results79, eq_true ht, hwc, hwl, hlc, htc, hl1, hl2, Nat.zero_le]
      refine ⟨⟨(c + 1, ⟨tb, tm, tbest⟩, G + 1, G + 1, G + 2, [(c : Int)]), by show nextOf ch ≤ c + 1; omega, clt, ⟨ht, hk⟩, q4'⟩, ?_, by show _ - (c + 1) < _ - c; omega⟩
      refine weak_mk rfl (by first | exact Nat.le_refl _ | (simp only [mk_gen]; omega)) ?_ ?_ <;> simp (config := {decide := true}) only [w_lookup_nil, w_lookup_cons, ch_ch, ch_lit, lit_ch, wkT, wkH, wkB, WVL, WV_refl', Int.natCast_zero, Int.natCast_add, Int.natCast_one, Nat.sub_self, Nat.sub_zero, List.replicate_zero, List.take_zero, List.nil_append, List.append_nil, fillC_zero, Nat.reduceDiv, Nat.reduceAdd, upd_bk, bk_at, getB_zero, getB_succ, modB_zero, modB_succ, rows_lit, repB_zero, repB_succ, List.length_cons, List.length_nil, upd_upd_same, upd_apply, mk_tmp, mk_heap, mk_gen, lookupA, lookupH, List.getD_cons_zero, List.getD_cons_succ, init_two, tops, Bool.true_and, and_self, and_true, true_and, true_or, if_true, if_false, ite_true, ite_false, reduceCtorEq, reduceIte]
    · rw [kids_neg (show tb < 0 by omega)] at q4'
      subst q4'
      simp (config := {decide := true, maxSteps := 1000000}) only [NoH, nilQ, nilA, RechL, ReY, isNew, stepO, XPost, postN, XOk, updN, updU, isEff, avalue, aeff, ASt.eval, ASt.put, ASt.set, ASt.new, Nat.reduceDiv, Nat.reduceAdd, Int.reduceToNat, absV, absC, scalar, alen, acap, conc, flats, live, blkOf, aload, rd, part?, afieldAddr, afield, aindexAddr, cellsOf, afill, places, abuild, optI, asliceV, asliceS, szOk, srcCells, aappend, astore, amakeSlice, abuildSlice, snapL, mapO, treeL, AVal.tree, AVal.flatT, isFlat, ares, isFz, afroz, afrozB, lookupA, lookupH, tops, if_true, if_false, reduceCtorEq, forall_const, ite_true, ite_false, implies_true, walkS, tabS, Try.results79, eq_false ht, hwc, hwl, hlc, htc, htd, htt, hl1, hl2, Nat.zero_le]
theorem denx_least (ws : List Int) (cv : List (List Int)) (cs : List Int) (B count : Int) (hsit : OkSit ws cv cs) (hB : B ≤ 20000) (hB1 : 1 ≤ B) : ∀ (f : Nat) (ch : List Int) (s : SS), cv.length - nextOf ch < f → Chn cv ch → 0 ≤ s.b → SOk s →
    DenX Try.prog 79 [yT ws cv cs B count ch s, xi (nextOf ch)] [yT ws cv cs B count ch (node (leafV ws cv cs) cv.length f ch s), xi (nextOf ch)] (xb (bp (0 ≤ (node (leafV ws cv cs) cv.length f ch s).b)))
  | 0, _, _, h, _, _, _ => absurd h (Nat.not_lt_zero _)
  | f + 1, ch, s, hf, hch, h0, hs => denx_leastStep ws cv cs B count hsit hB hB1 f (fun ch s a b c d => denx_least ws cv cs B count hsit hB hB1 f ch s a b c d) ch s hf hch h0 hs
end Go.Proofs.Ytjfjomnlckdjgaa
