/-
  OWN WORK: searches for choices: what they go through.
-/
import Derived.Test.YtocbojbgadcpcaaSiE
namespace Go.Proofs.Ytocbojbgadcpcaa
open Go Go.Own Go.Proofs
set_option maxHeartbeats 4000000
set_option maxRecDepth 20000
set_option linter.unusedSimpArgs false
/-! ### rows that the caller owns -/
theorem denx_l22CoveredX (ws : List Int) (cv : List (List Int)) (cs ch : List Int) (hr : InRows ws cv) (hi : Idx cv ch) (hb : ws.length ≤ 1000000) : DenX Try.prog 37 [.v (sitP ws cv cs), xints ch] [.v (sitP ws cv cs), xints ch] (.v (ints (covL ws cv ch))) := by
  refine denx_of_awp Try.func37 rfl (by kernel_rfl) (Nat.le_of_ble_eq_true rfl) (by simp +decide only [w_embA_nil, w_embA_cons, w_emb_v, w_emb_ol, w_emb_op, w_emb_agg, w_emb_tup, w_embL_nil, w_embL_cons, embL_i, List.map_cons, List.map_nil, List.nil_append, List.append_nil, List.cons_append, List.nodup_cons, List.nodup_nil, List.mem_cons, List.mem_nil_iff, List.not_mem_nil, ch_ch, ch_lit, lit_ch, Nat.reduceAdd]) mixed (by kernel_rfl) fun hl => ?_
  simp only [xlensL, xlens, lensL, lens, lensL_i, lensL_mapC, xlensL_i, maxI, and_true, true_and] at hl
  rw [Try.ntmps37]
  refine ex_start ?_
  simp (config := { maxSteps := 1000000 }) +decide only [NoH, Old, OldL, nilQ, nilA, RechL, ReY, isNew, stepO, XPost, postN, XOk, updN, updU, isEff, avalue, aeff, ASt.eval, ASt.put, ASt.set, ASt.new, Nat.reduceDiv, Nat.reduceAdd, Int.reduceToNat, absV, absC, scalar, alen, acap, conc, flats, live, blkOf, aload, rd, part?, afieldAddr, afield, aindexAddr, cellsOf, afill, places, abuild, optI, asliceV, asliceS, szOk, srcCells, aappend, astore, amakeSlice, abuildSlice, snapL, mapO, treeL, AVal.tree, AVal.flatT, isFlat, ares, isFz, afroz, afrozB, lookupA, lookupH, tops, if_true, if_false, reduceCtorEq, forall_const, ite_true, ite_false, implies_true, walkS, tabS, Try.results37]
  refine ex_loop (fun k : {k : Nat // k ≤ ch.length} => mk [(0, sitP ws cv cs), (1, .own 1 0 0 ch.length), (5, ints (covL ws cv (ch.take k))), (6, .i k)] [(1, ⟨0, 1, mapC AVal.i ch⟩)] 2 46) (fun k => ch.length - k) ⟨0, by simp⟩ ?_ ?_
  · have e : covL ws cv [] = [] := by
      unfold covL
      rw [plK_congr (q' := fun _ => False) fun k _ => cvd_nil cv k, plK_none]
    refine weak_mk rfl (by first | exact Nat.le_refl _ | (simp only [mk_gen]; omega)) ?_ ?_ <;> simp +decide only [w_lookup_nil, w_lookup_cons, ch_ch, ch_lit, lit_ch, wkT, wkH, wkB, WVL, WV_refl', Int.natCast_zero, Int.natCast_add, Int.natCast_one, Nat.sub_self, Nat.sub_zero, List.replicate_zero, List.take_zero, List.nil_append, List.append_nil, fillC_zero, Nat.reduceDiv, Nat.reduceAdd, upd_bk, bk_at, getB_zero, getB_succ, modB_zero, modB_succ, rows_lit, repB_zero, repB_succ, List.length_cons, List.length_nil, upd_upd_same, upd_apply, mk_tmp, mk_heap, mk_gen, lookupA, lookupH, List.getD_cons_zero, List.getD_cons_succ, init_two, tops, Bool.true_and, and_self, and_true, true_and, true_or, if_true, if_false, ite_true, ite_false, reduceCtorEq, reduceIte, e, mapC_nil, List.length_nil, treeL]
    exact WV_frz rfl rfl rfl (by simp) rfl rfl
  · rintro ⟨k, hk⟩
    by_cases hlt : k < ch.length
    · have hw : IntKind.i64.wrap ((k : Int) + 1) = ((k + 1 : Nat) : Int) := wrap64 (by omega) (by omega)
      obtain ⟨n, en, hn⟩ := hi k hlt
      simp (config := { maxSteps := 1000000 }) +decide only [NoH, Old, OldL, nilQ, nilA, RechL, ReY, isNew, stepO, XPost, postN, XOk, updN, updU, isEff, avalue, aeff, ASt.eval, ASt.put, ASt.set, ASt.new, Nat.reduceDiv, Nat.reduceAdd, Int.reduceToNat, absV, absC, scalar, alen, acap, conc, flats, live, blkOf, aload, rd, part?, afieldAddr, afield, aindexAddr, cellsOf, afill, places, abuild, optI, asliceV, asliceS, szOk, srcCells, aappend, astore, amakeSlice, abuildSlice, snapL, mapO, treeL, AVal.tree, AVal.flatT, isFlat, ares, isFz, afroz, afrozB, lookupA, lookupH, tops, if_true, if_false, reduceCtorEq, forall_const, ite_true, ite_false, implies_true, walkS, tabS, Try.results37, hw, hlt, en, hn]
      refine ex_loop (fun j : {j : Nat // j ≤ cv[n].length} => mk [(0, sitP ws cv cs), (1, .own 1 0 0 ch.length), (5, ints (covJ ws cv (ch.take k) cv[n] j)), (6, .i k), (7, .i j)] [(1, ⟨0, 1, mapC AVal.i ch⟩)] 2 46) (fun j => cv[n].length - j) ⟨0, by simp⟩ ?_ ?_
      · have e : covJ ws cv (ch.take k) cv[n] 0 = covL ws cv (ch.take k) := plK_congr fun y _ => by simp
        refine weak_mk rfl (by first | exact Nat.le_refl _ | (simp only [mk_gen]; omega)) ?_ ?_ <;> simp +decide only [w_lookup_nil, w_lookup_cons, ch_ch, ch_lit, lit_ch, wkT, wkH, wkB, WVL, WV_refl', Int.natCast_zero, Int.natCast_add, Int.natCast_one, Nat.sub_self, Nat.sub_zero, List.replicate_zero, List.take_zero, List.nil_append, List.append_nil, fillC_zero, Nat.reduceDiv, Nat.reduceAdd, upd_bk, bk_at, getB_zero, getB_succ, modB_zero, modB_succ, rows_lit, repB_zero, repB_succ, List.length_cons, List.length_nil, upd_upd_same, upd_apply, mk_tmp, mk_heap, mk_gen, lookupA, lookupH, List.getD_cons_zero, List.getD_cons_succ, init_two, tops, Bool.true_and, and_self, and_true, true_and, true_or, if_true, if_false, ite_true, ite_false, reduceCtorEq, reduceIte, e]
      · rintro ⟨j, hj⟩
        by_cases jlt : j < cv[n].length
        · have hrl : cv[n].length ≤ 9223372036854775807 := (hl.1.2.1.2 _ (List.getElem_mem hn)).1
          have hw' : IntKind.i64.wrap ((j : Int) + 1) = ((j + 1 : Nat) : Int) := wrap64 (by omega) (by omega)
          obtain ⟨m, em, hm⟩ : ∃ m : Nat, cv[n][j] = m ∧ m < ws.length := by
            have := (hr n hn j jlt).1
            exact ⟨cv[n][j].toNat, by omega, by omega⟩
          have hle : (covJ ws cv (ch.take k) cv[n] j).length ≤ ws.length := plK_le _ _
          simp (config := { maxSteps := 1000000 }) +decide only [NoH, Old, OldL, nilQ, nilA, RechL, ReY, isNew, stepO, XPost, postN, XOk, updN, updU, isEff, avalue, aeff, ASt.eval, ASt.put, ASt.set, ASt.new, Nat.reduceDiv, Nat.reduceAdd, Int.reduceToNat, absV, absC, scalar, alen, acap, conc, flats, live, blkOf, aload, rd, part?, afieldAddr, afield, aindexAddr, cellsOf, afill, places, abuild, optI, asliceV, asliceS, szOk, srcCells, aappend, astore, amakeSlice, abuildSlice, snapL, mapO, treeL, AVal.tree, AVal.flatT, isFlat, ares, isFz, afroz, afrozB, lookupA, lookupH, tops, if_true, if_false, reduceCtorEq, forall_const, ite_true, ite_false, implies_true, walkS, tabS, Try.results37, hw', hlt, en, hn, jlt, em]
          refine callK (den_l00Put _ _ (by omega)) (by first | exact .inl rfl | exact .inr rfl) ?_
          simp (config := { maxSteps := 1000000 }) +decide only [NoH, Old, OldL, nilQ, nilA, RechL, ReY, isNew, stepO, XPost, postN, XOk, updN, updU, isEff, avalue, aeff, ASt.eval, ASt.put, ASt.set, ASt.new, Nat.reduceDiv, Nat.reduceAdd, Int.reduceToNat, absV, absC, scalar, alen, acap, conc, flats, live, blkOf, aload, rd, part?, afieldAddr, afield, aindexAddr, cellsOf, afill, places, abuild, optI, asliceV, asliceS, szOk, srcCells, aappend, astore, amakeSlice, abuildSlice, snapL, mapO, treeL, AVal.tree, AVal.flatT, isFlat, ares, isFz, afroz, afrozB, lookupA, lookupH, tops, if_true, if_false, reduceCtorEq, forall_const, ite_true, ite_false, implies_true, walkS, tabS, Try.results37, hw']
          refine ⟨⟨j + 1, jlt⟩, ?_, by show _ - (j + 1) < _ - j; omega⟩
          have e : put (covJ ws cv (ch.take k) cv[n] j) m = covJ ws cv (ch.take k) cv[n] (j + 1) := by
            unfold covJ
            rw [put_plK hm]
            refine plK_congr fun y _ => ?_
            rw [List.take_succ_eq_append_getElem jlt, em]
            simp [or_assoc]
          refine weak_mk rfl (by first | exact Nat.le_refl _ | (simp only [mk_gen]; omega)) ?_ ?_ <;> simp +decide only [w_lookup_nil, w_lookup_cons, ch_ch, ch_lit, lit_ch, wkT, wkH, wkB, WVL, WV_refl', Int.natCast_zero, Int.natCast_add, Int.natCast_one, Nat.sub_self, Nat.sub_zero, List.replicate_zero, List.take_zero, List.nil_append, List.append_nil, fillC_zero, Nat.reduceDiv, Nat.reduceAdd, upd_bk, bk_at, getB_zero, getB_succ, modB_zero, modB_succ, rows_lit, repB_zero, repB_succ, List.length_cons, List.length_nil, upd_upd_same, upd_apply, mk_tmp, mk_heap, mk_gen, lookupA, lookupH, List.getD_cons_zero, List.getD_cons_succ, init_two, tops, Bool.true_and, and_self, and_true, true_and, true_or, if_true, if_false, ite_true, ite_false, reduceCtorEq, reduceIte, e]
        · have e : j = cv[n].length := by omega
          subst e
          simp (config := { maxSteps := 1000000 }) +decide only [NoH, Old, OldL, nilQ, nilA, RechL, ReY, isNew, stepO, XPost, postN, XOk, updN, updU, isEff, avalue, aeff, ASt.eval, ASt.put, ASt.set, ASt.new, Nat.reduceDiv, Nat.reduceAdd, Int.reduceToNat, absV, absC, scalar, alen, acap, conc, flats, live, blkOf, aload, rd, part?, afieldAddr, afield, aindexAddr, cellsOf, afill, places, abuild, optI, asliceV, asliceS, szOk, srcCells, aappend, astore, amakeSlice, abuildSlice, snapL, mapO, treeL, AVal.tree, AVal.flatT, isFlat, ares, isFz, afroz, afrozB, lookupA, lookupH, tops, if_true, if_false, reduceCtorEq, forall_const, ite_true, ite_false, implies_true, walkS, tabS, Try.results37, hw, hlt, en, hn, jlt]
          refine ⟨⟨k + 1, hlt⟩, ?_, by show _ - (k + 1) < _ - k; omega⟩
          have e : covJ ws cv (ch.take k) cv[n] cv[n].length = covL ws cv (ch.take (k + 1)) := by
            refine plK_congr fun y _ => ?_
            rw [List.take_length, List.take_succ_eq_append_getElem hlt, cvd_snoc, en, row_get hn]
          refine weak_mk rfl (by first | exact Nat.le_refl _ | (simp only [mk_gen]; omega)) ?_ ?_ <;> simp +decide only [w_lookup_nil, w_lookup_cons, ch_ch, ch_lit, lit_ch, wkT, wkH, wkB, WVL, WV_refl', Int.natCast_zero, Int.natCast_add, Int.natCast_one, Nat.sub_self, Nat.sub_zero, List.replicate_zero, List.take_zero, List.nil_append, List.append_nil, fillC_zero, Nat.reduceDiv, Nat.reduceAdd, upd_bk, bk_at, getB_zero, getB_succ, modB_zero, modB_succ, rows_lit, repB_zero, repB_succ, List.length_cons, List.length_nil, upd_upd_same, upd_apply, mk_tmp, mk_heap, mk_gen, lookupA, lookupH, List.getD_cons_zero, List.getD_cons_succ, init_two, tops, Bool.true_and, and_self, and_true, true_and, true_or, if_true, if_false, ite_true, ite_false, reduceCtorEq, reduceIte, e]
    · have e : k = ch.length := by omega
      subst e
      simp (config := { maxSteps := 1000000 }) +decide only [NoH, Old, OldL, nilQ, nilA, RechL, ReY, isNew, stepO, XPost, postN, XOk, updN, updU, isEff, avalue, aeff, ASt.eval, ASt.put, ASt.set, ASt.new, Nat.reduceDiv, Nat.reduceAdd, Int.reduceToNat, absV, absC, scalar, alen, acap, conc, flats, live, blkOf, aload, rd, part?, afieldAddr, afield, aindexAddr, cellsOf, afill, places, abuild, optI, asliceV, asliceS, szOk, srcCells, aappend, astore, amakeSlice, abuildSlice, snapL, mapO, treeL, AVal.tree, AVal.flatT, isFlat, ares, isFz, afroz, afrozB, lookupA, lookupH, tops, if_true, if_false, reduceCtorEq, forall_const, ite_true, ite_false, implies_true, walkS, tabS, Try.results37, hlt, List.take_length]
/-! ### the search -/
structure SS where
  b : Int
  m : Int
  best : List Int
def kids (g : List Int → SS → SS) (ch : List Int) : Nat → Nat → SS → SS
  | 0, _, s => s
  | k + 1, c, s => if s.b < 0 then s else kids g ch k (c + 1) (g (ch ++ [(c : Int)]) s)
def nextOf (ch : List Int) : Nat := match ch.getLast? with
  | some c => c.toNat + 1
  | none => 0
theorem nextOf_nil : nextOf [] = 0 := rfl
theorem nextOf_snoc (ch : List Int) (c : Nat) : nextOf (ch ++ [(c : Int)]) = c + 1 := by simp [nextOf]
def node (leaf : List Int → SS → Option SS) (N : Nat) : Nat → List Int → SS → SS
  | 0, _, s => s
  | f + 1, ch, s => if s.b - 1 < 0 then ⟨s.b - 1, s.m, s.best⟩ else match leaf ch ⟨s.b - 1, s.m, s.best⟩ with
    | some s2 => s2
    | none => kids (node leaf N f) ch (N - nextOf ch) (nextOf ch) ⟨s.b - 1, s.m, s.best⟩
/-- a choice that the search may come to -/
structure Chn (cv : List (List Int)) (ch : List Int) : Prop where
  idx : Idx cv ch
  le : ch.length ≤ nextOf ch
  nx : nextOf ch ≤ cv.length
theorem chn_nil (cv : List (List Int)) : Chn cv [] := ⟨fun _ h => absurd h (Nat.not_lt_zero _), Nat.le_refl _, Nat.zero_le _⟩
theorem chn_snoc {cv : List (List Int)} {ch : List Int} {c : Nat} (h : Chn cv ch) (h1 : nextOf ch ≤ c) (h2 : c < cv.length) : Chn cv (ch ++ [(c : Int)]) := by
  have hle := h.le
  refine ⟨fun i hi => ?_, ?_, ?_⟩
  · by_cases e : i < ch.length
    · rw [List.getElem_append_left e]; exact h.idx i e
    · refine ⟨c, ?_, h2⟩
      rw [List.getElem_append_right (by omega)]
      simp
  · rw [nextOf_snoc, List.length_append, List.length_cons, List.length_nil]
    omega
  · rw [nextOf_snoc]
    omega
/-- a leaf leaves the budget as it is, and what is best there is no number below none -/
def LeafOk (cv : List (List Int)) (leaf : List Int → SS → Option SS) : Prop := ∀ ch s s', Chn cv ch → leaf ch s = some s' → s'.b = s.b ∧ (-1 ≤ s.m → -1 ≤ s'.m) ∧ (s.best.length ≤ 20 → ch.length ≤ 20 → s'.best.length ≤ 20)
structure SOk (s : SS) : Prop where
  lo : -1 ≤ s.b
  hi : s.b ≤ 20000
  m : -1 ≤ s.m
  best : s.best.length ≤ 20
theorem kids_ok {g : List Int → SS → SS} {cv : List (List Int)} {ch : List Int} (hch : Chn cv ch) (hg : ∀ (c : Nat) (s : SS), nextOf ch ≤ c → c < cv.length → 0 ≤ s.b → SOk s → SOk (g (ch ++ [(c : Int)]) s)) : ∀ (k c : Nat) (s : SS), nextOf ch ≤ c → c + k ≤ cv.length → SOk s → SOk (kids g ch k c s)
  | 0, _, s, _, _, hs => hs
  | k + 1, c, s, h1, h2, hs => by
    unfold kids
    split
    · exact hs
    · exact kids_ok hch hg k (c + 1) _ (by omega) (by omega) (hg c s h1 (by omega) (by omega) hs)
theorem node_ok {leaf : List Int → SS → Option SS} {cv : List (List Int)} (hl : LeafOk cv leaf) (hn : cv.length ≤ 20) : ∀ (f : Nat) (ch : List Int) (s : SS), Chn cv ch → 0 ≤ s.b → SOk s → SOk (node leaf cv.length f ch s)
  | 0, _, _, _, _, hs => hs
  | f + 1, ch, s, hch, h0, hs => by
    have s1 : SOk ⟨s.b - 1, s.m, s.best⟩ := ⟨by show -1 ≤ s.b - 1; omega, by have := hs.hi; show s.b - 1 ≤ 20000; omega, hs.m, hs.best⟩
    unfold node
    split
    · exact s1
    · split
      · rename_i s2 hs2
        obtain ⟨a1, a2, a3⟩ := hl _ _ _ hch hs2
        have := hch.le
        have := hch.nx
        exact ⟨by rw [a1]; exact s1.lo, by rw [a1]; exact s1.hi, a2 s1.m, a3 s1.best (by omega)⟩
      · exact kids_ok hch (fun c s h1 h2 h3 h4 => node_ok hl hn f _ s (chn_snoc hch h1 h2) h3 h4) _ _ _ (Nat.le_refl _) (by have := hch.nx; omega) s1
end Go.Proofs.Ytocbojbgadcpcaa
