/-
  OWN WORK: assignments settled; choices asked for.
-/
import Derived.Test.YtkmhoebopfgpdaaGrG
namespace Go.Proofs.Ytkmhoebopfgpdaa
open Go Go.Own Go.Proofs
set_option maxHeartbeats 4000000
set_option maxRecDepth 20000
set_option linter.unusedSimpArgs false
set_option linter.unusedVariables false
set_option linter.unusedSectionVars false
noncomputable def chV (D A : List (List Int)) (L : List Int) (it : Nat) : List Int := chs D A L it (D.getD it []).length
/-- nothing can be lowered -/
def Settled (D A : List (List Int)) (L : List Int) : Prop := ∀ i : Nat, i < L.length → ∃ r, chV D A L i = L.getD i 0 :: r
section
variable {D A : List (List Int)} (h : PrD D A)
include h
theorem GA.pos {L : List Int} (g : GA D A L) {i : Nat} (hi : i < L.length) : 0 ≤ L.getD i 0 ∧ L.getD i 0 ≤ 999 := by
  rw [List.getD_eq_getElem?_getD, List.getElem?_eq_getElem hi, Option.getD_some]
  exact g.st.2 _ (List.getElem_mem hi)
theorem GA.pa {L : List Int} (g : GA D A L) : PA D A L := by
  have hl := g.st.1
  refine ⟨hl, fun i hi => .inr (g.fit i hi), fun i k hi hk hne _ _ => ?_⟩
  rcases Nat.lt_or_ge i k with c | c
  · exact g.nov i k c hk
  · have := g.nov k i (by omega) hi
    rw [h.apSym (by omega) (by omega)] at this
    unfold Near at this ⊢
    omega
theorem GA.set {L : List Int} (g : GA D A L) {it : Nat} (hi : it < L.length) {c : Int} (hc : c ∈ D.getD it []) (hf : Free A L it c) : GA D A (L.set it c) := by
  refine PA.all h (PA.set h (GA.pa h g) hi hc hf) fun i hi' => ?_
  rw [List.length_set] at hi'
  rw [getD_set _ _ _ _ hi]
  split
  · exact (h.domIn (by have := g.st.1; omega) hc).1
  · exact (GA.pos h g hi').1
theorem head_le {L : List Int} (g : GA D A L) {it : Nat} (hi : it < L.length) : ∃ c r, chV D A L it = c :: r ∧ c ≤ L.getD it 0 ∧ c ∈ D.getD it [] ∧ Free A L it c := by
  have hl := g.st.1
  have hD : it < D.length := by omega
  have eD : D.getD it [] = D[it] := by rw [List.getD_eq_getElem?_getD, List.getElem?_eq_getElem hD, Option.getD_some]
  have hmem : L.getD it 0 ∈ chV D A L it := by
    unfold chV chs
    rw [List.take_length, List.mem_filter, bp_true]
    refine ⟨g.fit it hi, fun k hk hne h0 => ?_⟩
    have := (GA.pa h g).far it k hi hk (fun e => hne e.symm) (GA.pos h g hi).1
    have e : L.getD k 0 = L[k] := by rw [List.getD_eq_getElem?_getD, List.getElem?_eq_getElem hk, Option.getD_some]
    rw [e] at this
    exact this h0
  have hpw : (chV D A L it).Pairwise (· < ·) := by
    unfold chV chs
    rw [List.take_length, eD]
    refine List.Pairwise.filter _ ?_
    have hu := (h.dom _ (List.getElem_mem hD)).up
    rw [List.pairwise_iff_getElem]
    have key : ∀ j (hj : j < D[it].length) i (hi : i < j), D[it][i] < D[it][j] := by
      intro j
      induction j with
      | zero => intro hj i hi; omega
      | succ j ih =>
        intro hj i hi
        have h1 := (hu (j + 1) hj).2 (by omega)
        simp only [Nat.add_sub_cancel] at h1
        by_cases e : i = j
        · subst e; exact h1
        · have := ih (by omega) i (by omega)
          omega
    exact fun i j hi hj hij => key j hj i hij
  cases hC : chV D A L it with
  | nil => rw [hC] at hmem; simp at hmem
  | cons c r =>
    rw [hC] at hmem hpw
    have hc : c ∈ chV D A L it := by rw [hC]; simp
    obtain ⟨q1, q2⟩ := chs_of hc
    refine ⟨c, r, rfl, ?_, q1, q2⟩
    rcases List.mem_cons.1 hmem with e | e
    · omega
    · have := (List.pairwise_cons.1 hpw).1 _ e
      omega
end
def sN (X : List Int) : Nat := (X.map Int.toNat).sum
theorem sN_set {X : List Int} {j : Nat} {c : Int} (hj : j < X.length) (h0 : 0 ≤ c) (hc : c < X[j]) : sN (X.set j c) < sN X := by
  have e1 : X = X.take j ++ X[j] :: X.drop (j + 1) := by
    rw [← List.drop_eq_getElem_cons hj, List.take_append_drop]
  have e2 : X.set j c = X.take j ++ c :: X.drop (j + 1) := by rw [List.set_eq_take_append_cons_drop, if_pos hj]
  unfold sN
  rw [e2]
  conv => rhs; rw [e1]
  simp only [List.map_append, List.sum_append, List.map_cons, List.sum_cons]
  omega
/-- a pass of settling -/
structure StI (D A : List (List Int)) (X : List Int) (i : Nat) (Y : List Int) (m : Bool) : Prop where
  ga : GA D A Y
  le : ∀ j : Nat, j < X.length → Y.getD j 0 ≤ X.getD j 0
  no : m = false → Y = X ∧ ∀ j : Nat, j < i → ∃ r, chV D A X j = X.getD j 0 :: r
  yes : m = true → sN Y < sN X
  fix : Settled D A X → Y = X ∧ m = false
/-- what settling leaves -/
structure SeI (D A : List (List Int)) (L X : List Int) (m : Bool) : Prop where
  ga : GA D A X
  le : ∀ j : Nat, j < L.length → X.getD j 0 ≤ L.getD j 0
  no : m = false → Settled D A X
  fix : Settled D A L → X = L
theorem deny_Settle {D A : List (List Int)} (h : PrD D A) (L : List Int) (hL : GA D A L) : DenY Try.prog 25 [.v (proV D A), .v (ints L)] (fun R : List Int => SeI D A L R false) (fun _ => [.v (proV D A), .v (ints L)]) (fun R => .v (.tup [ints R, .i 0])) := by
  have hn := h.few
  have hn1 := h.pos
  have hlA := h.len
  have lL := hL.st.1
  have t0 : treeL [proP D A] = true := by simp only [treeL, AVal.tree, treeL_ints, treeL_i, Bool.and_self]
  have ok1 : FitOk D L ∧ NoVio A L := ⟨hL.fit, hL.nov⟩
  have dC := denx_Clone L (by omega)
  rw [show xints L = .ol 1 (mapC xi L) D.length by show XT.ol _ _ _ = _; rw [lL]] at dC
  refine denY_of_awpG (ghs [] [2]) Try.func25 rfl (by kernel_rfl) (Nat.le_of_ble_eq_true rfl) (by simp +decide only [w_embA_nil, w_embA_cons, w_emb_v, w_emb_ol, w_emb_op, w_emb_agg, w_emb_tup, w_embL_nil, w_embL_cons, embL_i, List.map_cons, List.map_nil, List.nil_append, List.append_nil, List.cons_append, List.nodup_cons, List.nodup_nil, List.mem_cons, List.mem_nil_iff, List.not_mem_nil, ch_ch, ch_lit, lit_ch, Nat.reduceAdd]) mixed (by kernel_rfl) fun hl => ?_
  simp only [xlensL, xlens, lensL, lens, lensL_i, lensL_mapC, xlensL_i, maxI, and_true, true_and] at hl
  rw [Try.ntmps25]
  refine ex_start ?_
  simp (config := { maxSteps := 1000000 }) +decide only [NoH, Old, OldL, nilQ, nilA, asgn, nz, RechL, ReY, isNew, stepO, XPost, postN, XOk, updN, updU, isEff, avalue, aeff, ASt.eval, ASt.put, ASt.set, ASt.new, Nat.reduceDiv, Nat.reduceAdd, Int.reduceToNat, absV, absC, scalar, alen, acap, conc, flats, live, blkOf, aload, rd, part?, afieldAddr, afield, aindexAddr, cellsOf, afill, places, abuild, optI, asliceV, asliceS, szOk, srcCells, aappend, acopy, aclear, astore, amakeSlice, abuildSlice, snapL, mapO, treeL, AVal.tree, AVal.flatT, isFlat, ares, isFz, afroz, afrozB, lookupA, lookupH, tops, if_true, if_false, reduceCtorEq, forall_const, ite_true, ite_false, implies_true, walkS, tabS, Try.results25]
  refine callK (den_implValidProblem h) (by first | exact .inl rfl | exact .inr rfl) ?_
  simp (config := { maxSteps := 1000000 }) +decide only [NoH, Old, OldL, nilQ, nilA, asgn, nz, RechL, ReY, isNew, stepO, XPost, postN, XOk, updN, updU, isEff, avalue, aeff, ASt.eval, ASt.put, ASt.set, ASt.new, Nat.reduceDiv, Nat.reduceAdd, Int.reduceToNat, absV, absC, scalar, alen, acap, conc, flats, live, blkOf, aload, rd, part?, afieldAddr, afield, aindexAddr, cellsOf, afill, places, abuild, optI, asliceV, asliceS, szOk, srcCells, aappend, acopy, aclear, astore, amakeSlice, abuildSlice, snapL, mapO, treeL, AVal.tree, AVal.flatT, isFlat, ares, isFz, afroz, afrozB, lookupA, lookupH, tops, if_true, if_false, reduceCtorEq, forall_const, ite_true, ite_false, implies_true, walkS, tabS, Try.results25]
  refine callK (den_implValidA h L hL.st) (by first | exact .inl rfl | exact .inr rfl) ?_
  simp (config := { maxSteps := 1000000 }) +decide only [NoH, Old, OldL, nilQ, nilA, asgn, nz, RechL, ReY, isNew, stepO, XPost, postN, XOk, updN, updU, isEff, avalue, aeff, ASt.eval, ASt.put, ASt.set, ASt.new, Nat.reduceDiv, Nat.reduceAdd, Int.reduceToNat, absV, absC, scalar, alen, acap, conc, flats, live, blkOf, aload, rd, part?, afieldAddr, afield, aindexAddr, cellsOf, afill, places, abuild, optI, asliceV, asliceS, szOk, srcCells, aappend, acopy, aclear, astore, amakeSlice, abuildSlice, snapL, mapO, treeL, AVal.tree, AVal.flatT, isFlat, ares, isFz, afroz, afrozB, lookupA, lookupH, tops, if_true, if_false, reduceCtorEq, forall_const, ite_true, ite_false, implies_true, walkS, tabS, Try.results25, eq_true ok1]
  refine callX (dC) (by simp (config := { maxSteps := 1000000 }) +decide only [NoH, Old, OldL, nilQ, nilA, asgn, nz, RechL, ReY, isNew, stepO, XPost, postN, XOk, updN, updU, isEff, avalue, aeff, ASt.eval, ASt.put, ASt.set, ASt.new, Nat.reduceDiv, Nat.reduceAdd, Int.reduceToNat, absV, absC, scalar, alen, acap, conc, flats, live, blkOf, aload, rd, part?, afieldAddr, afield, aindexAddr, cellsOf, afill, places, abuild, optI, asliceV, asliceS, szOk, srcCells, aappend, acopy, aclear, astore, amakeSlice, abuildSlice, snapL, mapO, treeL, AVal.tree, AVal.flatT, isFlat, ares, isFz, afroz, afrozB, lookupA, lookupH, tops, if_true, if_false, reduceCtorEq, forall_const, ite_true, ite_false, implies_true, walkS, tabS, Try.results25, t0, treeL_i, treeL_ints]) ?_
  simp (config := { maxSteps := 1000000 }) +decide only [NoH, Old, OldL, nilQ, nilA, asgn, nz, RechL, ReY, isNew, stepO, XPost, postN, XOk, updN, updU, isEff, avalue, aeff, ASt.eval, ASt.put, ASt.set, ASt.new, Nat.reduceDiv, Nat.reduceAdd, Int.reduceToNat, absV, absC, scalar, alen, acap, conc, flats, live, blkOf, aload, rd, part?, afieldAddr, afield, aindexAddr, cellsOf, afill, places, abuild, optI, asliceV, asliceS, szOk, srcCells, aappend, acopy, aclear, astore, amakeSlice, abuildSlice, snapL, mapO, treeL, AVal.tree, AVal.flatT, isFlat, ares, isFz, afroz, afrozB, lookupA, lookupH, tops, if_true, if_false, reduceCtorEq, forall_const, ite_true, ite_false, implies_true, walkS, tabS, Try.results25, t0, treeL_i, treeL_ints]
  refine ex_loop (fun p : {p : List Int × Bool × Nat × Nat // SeI D A L p.1 p.2.1} => mkG (ghs [] [2]) [(2, proP D A), (6, .own 20 p.1.2.2.1 0 D.length), (7, .b p.1.2.1)] [(20, ⟨p.1.2.2.1, 1, mapC AVal.i p.1.1⟩)] p.1.2.2.2 47) (fun p => 2 * sN p.1.1 + (if p.1.2.1 = true then 1 else 0)) ⟨(L, true, 1, 2), ⟨hL, fun _ _ => Int.le_refl _, fun e => by simp at e, fun _ => rfl⟩⟩ ?_ ?_
  · refine weak_mk rfl (by first | exact Nat.le_refl _ | (simp only [mk_gen]; omega)) ?_ ?_ <;> simp +decide only [w_lookup_nil, w_lookup_cons, ch_ch, ch_lit, lit_ch, wkT, wkH, wkB, WVL, WV_refl', Int.natCast_zero, Int.natCast_add, Int.natCast_one, Nat.sub_self, Nat.sub_zero, List.replicate_zero, List.take_zero, List.nil_append, List.append_nil, fillC_zero, Nat.reduceDiv, Nat.reduceAdd, upd_bk, bk_at, getB_zero, getB_succ, modB_zero, modB_succ, rows_lit, repB_zero, repB_succ, List.length_cons, List.length_nil, upd_upd_same, upd_apply, mk_tmp, mk_heap, mk_gen, lookupA, lookupH, List.getD_cons_zero, List.getD_cons_succ, init_two, tops, Bool.true_and, and_self, and_true, true_and, true_or, if_true, if_false, ite_true, ite_false, reduceCtorEq, reduceIte]
  rintro ⟨⟨X, m0, g, G⟩, k2⟩
  have sX : SeI D A L X m0 := k2
  have lX := sX.ga.st.1
  have tX : List.take D.length X = X := List.take_of_length_le (by omega)
  have eX : ints X = .lst (mapC AVal.i X) D.length := by show AVal.lst _ _ = _; rw [lX]
  cases m0
  case false =>
    simp (config := { maxSteps := 1000000 }) +decide only [NoH, Old, OldL, nilQ, nilA, asgn, nz, RechL, ReY, isNew, stepO, XPost, postN, XOk, updN, updU, isEff, avalue, aeff, ASt.eval, ASt.put, ASt.set, ASt.new, Nat.reduceDiv, Nat.reduceAdd, Int.reduceToNat, absV, absC, scalar, alen, acap, conc, flats, live, blkOf, aload, rd, part?, afieldAddr, afield, aindexAddr, cellsOf, afill, places, abuild, optI, asliceV, asliceS, szOk, srcCells, aappend, acopy, aclear, astore, amakeSlice, abuildSlice, snapL, mapO, treeL, AVal.tree, AVal.flatT, isFlat, ares, isFz, afroz, afrozB, lookupA, lookupH, tops, if_true, if_false, reduceCtorEq, forall_const, ite_true, ite_false, implies_true, walkS, tabS, Try.results25, lX, tX, treeL_i]
    refine yretW (s' := mkG (ghs [] [2]) [(4, .lst (mapC AVal.i X) D.length), (5, .i 0)] [] (G + 20) 47) (.step ?_ (.refl _)) X sX ?_
    · refine weak_mk rfl (by first | exact Nat.le_refl _ | (simp only [mk_gen]; omega)) ?_ ?_ <;> simp +decide only [w_lookup_nil, w_lookup_cons, ch_ch, ch_lit, lit_ch, wkT, wkH, wkB, WVL, WV_refl', Int.natCast_zero, Int.natCast_add, Int.natCast_one, Nat.sub_self, Nat.sub_zero, List.replicate_zero, List.take_zero, List.nil_append, List.append_nil, fillC_zero, Nat.reduceDiv, Nat.reduceAdd, upd_bk, bk_at, getB_zero, getB_succ, modB_zero, modB_succ, rows_lit, repB_zero, repB_succ, List.length_cons, List.length_nil, upd_upd_same, upd_apply, mk_tmp, mk_heap, mk_gen, lookupA, lookupH, List.getD_cons_zero, List.getD_cons_succ, init_two, tops, Bool.true_and, and_self, and_true, true_and, true_or, if_true, if_false, ite_true, ite_false, reduceCtorEq, reduceIte]
      exact WV_frz rfl rfl rfl (by simp [len_mapC, lX]) (by rw [List.drop_zero]; exact (List.take_of_length_le (by rw [len_mapC, lX]; exact Nat.le_of_eq (Nat.mul_one _).symm)).symm) (treeL_i _)
    · simp (config := { maxSteps := 1000000 }) +decide only [NoH, Old, OldL, nilQ, nilA, asgn, nz, RechL, ReY, isNew, stepO, XPost, postN, XOk, updN, updU, isEff, avalue, aeff, ASt.eval, ASt.put, ASt.set, ASt.new, Nat.reduceDiv, Nat.reduceAdd, Int.reduceToNat, absV, absC, scalar, alen, acap, conc, flats, live, blkOf, aload, rd, part?, afieldAddr, afield, aindexAddr, cellsOf, afill, places, abuild, optI, asliceV, asliceS, szOk, srcCells, aappend, acopy, aclear, astore, amakeSlice, abuildSlice, snapL, mapO, treeL, AVal.tree, AVal.flatT, isFlat, ares, isFz, afroz, afrozB, lookupA, lookupH, tops, if_true, if_false, reduceCtorEq, forall_const, ite_true, ite_false, implies_true, walkS, tabS, Try.results25, eX, t0, treeL_i, treeL_ints]
  simp (config := { maxSteps := 1000000 }) +decide only [NoH, Old, OldL, nilQ, nilA, asgn, nz, RechL, ReY, isNew, stepO, XPost, postN, XOk, updN, updU, isEff, avalue, aeff, ASt.eval, ASt.put, ASt.set, ASt.new, Nat.reduceDiv, Nat.reduceAdd, Int.reduceToNat, absV, absC, scalar, alen, acap, conc, flats, live, blkOf, aload, rd, part?, afieldAddr, afield, aindexAddr, cellsOf, afill, places, abuild, optI, asliceV, asliceS, szOk, srcCells, aappend, acopy, aclear, astore, amakeSlice, abuildSlice, snapL, mapO, treeL, AVal.tree, AVal.flatT, isFlat, ares, isFz, afroz, afrozB, lookupA, lookupH, tops, if_true, if_false, reduceCtorEq, forall_const, ite_true, ite_false, implies_true, walkS, tabS, Try.results25, lX, tX, treeL_i]
  refine ex_loop (fun p : {p : Nat × List Int × Bool × Nat × Nat // p.1 ≤ D.length ∧ StI D A X p.1 p.2.1 p.2.2.1} => mkG (ghs [] [2]) [(2, proP D A), (6, .own 20 p.1.2.2.2.1 0 D.length), (7, .b p.1.2.2.1), (23, .i D.length), (24, .i p.1.1)] [(20, ⟨p.1.2.2.2.1, 1, mapC AVal.i p.1.2.1⟩)] p.1.2.2.2.2 47) (fun p => D.length - p.1.1) ⟨(0, X, false, g, G), Nat.zero_le _, ⟨sX.ga, fun _ _ => Int.le_refl _, fun _ => ⟨rfl, fun j hj => by omega⟩, fun e => by simp at e, fun _ => ⟨rfl, rfl⟩⟩⟩ ?_ ?_
  · refine weak_mk rfl (by first | exact Nat.le_refl _ | (simp only [mk_gen]; omega)) ?_ ?_ <;> simp +decide only [w_lookup_nil, w_lookup_cons, ch_ch, ch_lit, lit_ch, wkT, wkH, wkB, WVL, WV_refl', Int.natCast_zero, Int.natCast_add, Int.natCast_one, Nat.sub_self, Nat.sub_zero, List.replicate_zero, List.take_zero, List.nil_append, List.append_nil, fillC_zero, Nat.reduceDiv, Nat.reduceAdd, upd_bk, bk_at, getB_zero, getB_succ, modB_zero, modB_succ, rows_lit, repB_zero, repB_succ, List.length_cons, List.length_nil, upd_upd_same, upd_apply, mk_tmp, mk_heap, mk_gen, lookupA, lookupH, List.getD_cons_zero, List.getD_cons_succ, init_two, tops, Bool.true_and, and_self, and_true, true_and, true_or, if_true, if_false, ite_true, ite_false, reduceCtorEq, reduceIte]
  rintro ⟨⟨i, Y, m, g2, G2⟩, i1, i2⟩
  have i1' : i ≤ D.length := i1
  have sY : StI D A X i Y m := i2
  have lY := sY.ga.st.1
  have tY : List.take D.length Y = Y := List.take_of_length_le (by omega)
  have eY : ints Y = .lst (mapC AVal.i Y) D.length := by show AVal.lst _ _ = _; rw [lY]
  by_cases ilt : i < D.length
  case neg =>
    have e : i = D.length := by omega
    subst e
    have iI : ¬ (D.length : Int) < (D.length : Int) := by omega
    simp (config := { maxSteps := 1000000 }) +decide only [NoH, Old, OldL, nilQ, nilA, asgn, nz, RechL, ReY, isNew, stepO, XPost, postN, XOk, updN, updU, isEff, avalue, aeff, ASt.eval, ASt.put, ASt.set, ASt.new, Nat.reduceDiv, Nat.reduceAdd, Int.reduceToNat, absV, absC, scalar, alen, acap, conc, flats, live, blkOf, aload, rd, part?, afieldAddr, afield, aindexAddr, cellsOf, afill, places, abuild, optI, asliceV, asliceS, szOk, srcCells, aappend, acopy, aclear, astore, amakeSlice, abuildSlice, snapL, mapO, treeL, AVal.tree, AVal.flatT, isFlat, ares, isFz, afroz, afrozB, lookupA, lookupH, tops, if_true, if_false, reduceCtorEq, forall_const, ite_true, ite_false, implies_true, walkS, tabS, Try.results25, eq_false iI]
    refine ⟨⟨(Y, m, g2, G2), ⟨sY.ga, fun j hj => Int.le_trans (sY.le j (by omega)) (sX.le j hj), fun e => ?_, fun hs => ?_⟩⟩, ?_, ?_⟩
    · obtain ⟨e1, e2⟩ := sY.no e
      have e1' : Y = X := e1
      show Settled D A Y
      rw [e1']
      exact fun j hj => e2 j (by omega)
    · have e1 := sX.fix hs
      have e2 := sY.fix (by rw [e1]; exact hs)
      exact e2.1.trans e1
    · refine weak_mk rfl (by first | exact Nat.le_refl _ | (simp only [mk_gen]; omega)) ?_ ?_ <;> simp +decide only [w_lookup_nil, w_lookup_cons, ch_ch, ch_lit, lit_ch, wkT, wkH, wkB, WVL, WV_refl', Int.natCast_zero, Int.natCast_add, Int.natCast_one, Nat.sub_self, Nat.sub_zero, List.replicate_zero, List.take_zero, List.nil_append, List.append_nil, fillC_zero, Nat.reduceDiv, Nat.reduceAdd, upd_bk, bk_at, getB_zero, getB_succ, modB_zero, modB_succ, rows_lit, repB_zero, repB_succ, List.length_cons, List.length_nil, upd_upd_same, upd_apply, mk_tmp, mk_heap, mk_gen, lookupA, lookupH, List.getD_cons_zero, List.getD_cons_succ, init_two, tops, Bool.true_and, and_self, and_true, true_and, true_or, if_true, if_false, ite_true, ite_false, reduceCtorEq, reduceIte]
    · show 2 * sN Y + (if m = true then 1 else 0) < 2 * sN X + (if true = true then 1 else 0)
      cases m
      · rw [(sY.no rfl).1]
        simp
      · have := sY.yes rfl
        simp
        omega
  have iI : (i : Int) < (D.length : Int) := by omega
  have wi : IntKind.i64.wrap ((i : Int) + 1) = ((i + 1 : Nat) : Int) := wrap64 (by omega) (by omega)
  have iY : i < Y.length := by omega
  have hch := denx_choicesV h Y i (by omega) ilt (PA.small h (GA.pa h sY.ga))
  have eD : D.getD i [] = D[i] := by rw [List.getD_eq_getElem?_getD, List.getElem?_eq_getElem ilt, Option.getD_some]
  obtain ⟨c, r, eC, hle, hcd, hcf⟩ := head_le h sY.ga iY
  have eC' : chs D A Y i D[i].length = c :: r := by
    rw [← eC]
    unfold chV
    rw [eD]
  rw [eY, eC'] at hch
  have egY : Y.getD i 0 = Y[i] := by rw [List.getD_eq_getElem?_getD, List.getElem?_eq_getElem iY, Option.getD_some]
  have gY : Y[i]? = some Y[i] := List.getElem?_eq_getElem iY
  have gY2 : (mapC AVal.i Y)[i]? = some (.i Y[i]) := by simp [mapC, iY]
  have tC : List.take (c :: r).length (c :: r) = c :: r := List.take_length
  have l1 : 0 < (c :: r).length := by simp
  have l2 : (0 : Int) < ((c :: r).length : Int) := by simp only [List.length_cons]; omega
  have g0 : (mapC AVal.i (c :: r))[0]? = some (.i c) := rfl
  have g1 : (c :: r)[0] = c := rfl
  have c0 := (h.domIn ilt hcd).1
  generalize hR : c :: r = R at *
  simp (config := { maxSteps := 1000000 }) +decide only [NoH, Old, OldL, nilQ, nilA, asgn, nz, RechL, ReY, isNew, stepO, XPost, postN, XOk, updN, updU, isEff, avalue, aeff, ASt.eval, ASt.put, ASt.set, ASt.new, Nat.reduceDiv, Nat.reduceAdd, Int.reduceToNat, absV, absC, scalar, alen, acap, conc, flats, live, blkOf, aload, rd, part?, afieldAddr, afield, aindexAddr, cellsOf, afill, places, abuild, optI, asliceV, asliceS, szOk, srcCells, aappend, acopy, aclear, astore, amakeSlice, abuildSlice, snapL, mapO, treeL, AVal.tree, AVal.flatT, isFlat, ares, isFz, afroz, afrozB, lookupA, lookupH, tops, if_true, if_false, reduceCtorEq, forall_const, ite_true, ite_false, implies_true, walkS, tabS, Try.results25, eq_true iI, ilt, lY, tY, treeL_i, treeL_ints]
  refine callX (hch) (by simp (config := { maxSteps := 1000000 }) +decide only [NoH, Old, OldL, nilQ, nilA, asgn, nz, RechL, ReY, isNew, stepO, XPost, postN, XOk, updN, updU, isEff, avalue, aeff, ASt.eval, ASt.put, ASt.set, ASt.new, Nat.reduceDiv, Nat.reduceAdd, Int.reduceToNat, absV, absC, scalar, alen, acap, conc, flats, live, blkOf, aload, rd, part?, afieldAddr, afield, aindexAddr, cellsOf, afill, places, abuild, optI, asliceV, asliceS, szOk, srcCells, aappend, acopy, aclear, astore, amakeSlice, abuildSlice, snapL, mapO, treeL, AVal.tree, AVal.flatT, isFlat, ares, isFz, afroz, afrozB, lookupA, lookupH, tops, if_true, if_false, reduceCtorEq, forall_const, ite_true, ite_false, implies_true, walkS, tabS, Try.results25, lY, tY, tC, t0, treeL_i, treeL_ints]) ?_
  by_cases cl : c < Y[i]
  · simp (config := { maxSteps := 1000000 }) +decide only [NoH, Old, OldL, nilQ, nilA, asgn, nz, RechL, ReY, isNew, stepO, XPost, postN, XOk, updN, updU, isEff, avalue, aeff, ASt.eval, ASt.put, ASt.set, ASt.new, Nat.reduceDiv, Nat.reduceAdd, Int.reduceToNat, absV, absC, scalar, alen, acap, conc, flats, live, blkOf, aload, rd, part?, afieldAddr, afield, aindexAddr, cellsOf, afill, places, abuild, optI, asliceV, asliceS, szOk, srcCells, aappend, acopy, aclear, astore, amakeSlice, abuildSlice, snapL, mapO, treeL, AVal.tree, AVal.flatT, isFlat, ares, isFz, afroz, afrozB, lookupA, lookupH, tops, if_true, if_false, reduceCtorEq, forall_const, ite_true, ite_false, implies_true, walkS, tabS, Try.results25, l1, l2, g0, g1, tC, lY, tY, iY, ilt, iI, gY, gY2, eq_true cl, mapC_set, wi, treeL_i]
    have ga2 := GA.set h sY.ga iY hcd hcf
    have dec := sN_set iY c0 cl
    refine ⟨⟨(i + 1, Y.set i c, true, g2, G2 + 1), ilt, ⟨ga2, fun j hj => ?_, fun e => by simp at e, fun _ => ?_, fun hs => ?_⟩⟩, ?_, by show D.length - (i + 1) < D.length - i; omega⟩
    · have := sY.le j hj
      rw [getD_set _ _ _ _ iY]
      split
      · rename_i e
        subst e
        rw [egY] at this
        omega
      · exact this
    · show sN (Y.set i c) < sN X
      cases m
      · rw [(sY.no rfl).1] at dec ⊢
        exact dec
      · have := sY.yes rfl
        omega
    · exfalso
      have e1 := (sY.fix hs).1
      obtain ⟨r', er⟩ := hs i (by omega)
      rw [← e1, eC] at er
      have := (List.cons.inj (hR.trans er)).1
      omega
    · refine weak_mk rfl (by first | exact Nat.le_refl _ | (simp only [mk_gen]; omega)) ?_ ?_ <;> simp +decide only [w_lookup_nil, w_lookup_cons, ch_ch, ch_lit, lit_ch, wkT, wkH, wkB, WVL, WV_refl', Int.natCast_zero, Int.natCast_add, Int.natCast_one, Nat.sub_self, Nat.sub_zero, List.replicate_zero, List.take_zero, List.nil_append, List.append_nil, fillC_zero, Nat.reduceDiv, Nat.reduceAdd, upd_bk, bk_at, getB_zero, getB_succ, modB_zero, modB_succ, rows_lit, repB_zero, repB_succ, List.length_cons, List.length_nil, upd_upd_same, upd_apply, mk_tmp, mk_heap, mk_gen, lookupA, lookupH, List.getD_cons_zero, List.getD_cons_succ, init_two, tops, Bool.true_and, and_self, and_true, true_and, true_or, if_true, if_false, ite_true, ite_false, reduceCtorEq, reduceIte]
  · have ce : c = Y[i] := by rw [egY] at hle; omega
    simp (config := { maxSteps := 1000000 }) +decide only [NoH, Old, OldL, nilQ, nilA, asgn, nz, RechL, ReY, isNew, stepO, XPost, postN, XOk, updN, updU, isEff, avalue, aeff, ASt.eval, ASt.put, ASt.set, ASt.new, Nat.reduceDiv, Nat.reduceAdd, Int.reduceToNat, absV, absC, scalar, alen, acap, conc, flats, live, blkOf, aload, rd, part?, afieldAddr, afield, aindexAddr, cellsOf, afill, places, abuild, optI, asliceV, asliceS, szOk, srcCells, aappend, acopy, aclear, astore, amakeSlice, abuildSlice, snapL, mapO, treeL, AVal.tree, AVal.flatT, isFlat, ares, isFz, afroz, afrozB, lookupA, lookupH, tops, if_true, if_false, reduceCtorEq, forall_const, ite_true, ite_false, implies_true, walkS, tabS, Try.results25, l1, l2, g0, g1, tC, lY, tY, iY, ilt, iI, gY, gY2, eq_false cl, wi, treeL_i]
    refine ⟨⟨(i + 1, Y, m, g2, G2 + 1), ilt, ⟨sY.ga, sY.le, fun e => ?_, sY.yes, sY.fix⟩⟩, ?_, by show D.length - (i + 1) < D.length - i; omega⟩
    · obtain ⟨e1, e2⟩ := sY.no e
      refine ⟨e1, fun j hj => ?_⟩
      by_cases ej : j = i
      · subst ej
        refine ⟨r, ?_⟩
        rw [← e1, eC, egY, ← ce]
        exact hR.symm
      · exact e2 j (by omega)
    · refine weak_mk rfl (by first | exact Nat.le_refl _ | (simp only [mk_gen]; omega)) ?_ ?_ <;> simp +decide only [w_lookup_nil, w_lookup_cons, ch_ch, ch_lit, lit_ch, wkT, wkH, wkB, WVL, WV_refl', Int.natCast_zero, Int.natCast_add, Int.natCast_one, Nat.sub_self, Nat.sub_zero, List.replicate_zero, List.take_zero, List.nil_append, List.append_nil, fillC_zero, Nat.reduceDiv, Nat.reduceAdd, upd_bk, bk_at, getB_zero, getB_succ, modB_zero, modB_succ, rows_lit, repB_zero, repB_succ, List.length_cons, List.length_nil, upd_upd_same, upd_apply, mk_tmp, mk_heap, mk_gen, lookupA, lookupH, List.getD_cons_zero, List.getD_cons_succ, init_two, tops, Bool.true_and, and_self, and_true, true_and, true_or, if_true, if_false, ite_true, ite_false, reduceCtorEq, reduceIte]
end Go.Proofs.Ytkmhoebopfgpdaa
