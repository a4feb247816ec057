/-
  OWN WORK: the program's search for assignments.
-/
import Derived.Test.YteempjinbolkaaaPsB
namespace Go.Proofs.Yteempjinbolkaaa
open Go Go.Own Go.Proofs
set_option maxHeartbeats 4000000
set_option maxRecDepth 20000
set_option linter.unusedSimpArgs false
set_option linter.unusedVariables false
/-- a search's state in memory -/
abbrev aT (D A : List (List Int)) (fst : Bool) (w b fd : Int) (L : List Int) : XT := .op [.v (intss D), .v (intss A), xi b, xb fst, xi w, xints L, xi fd]
theorem deny_assignStep {D A : List (List Int)} (h : PrD D A) (fst : Bool) (w : Int) (hw : fst = false → w = 999) (f : Nat)
    (ih : ∀ (pre : List Int) (b fd : Int), D.length - pre.length = f → pre.length ≤ D.length → Part D A pre → Sp pre w → 0 ≤ b → b ≤ 20000 → 0 ≤ fd → fd ≤ 1000000 - b → (fst = true → fd = 0) →
      DenY Try.prog 57 [aT D A fst w b fd pre] (VsOk D A fst w (vis D A f pre) pre b fd) (fun r => [aT D A fst w r.1 r.2.1 r.2.2]) (fun _ => .tup []))
    (pre : List Int) (b fd : Int) (hf : D.length - pre.length = f + 1) (hpl : pre.length ≤ D.length) (hp : Part D A pre) (hsp : Sp pre w) (hb0 : 0 ≤ b) (hb1 : b ≤ 20000) (hfd0 : 0 ≤ fd) (hfd1 : fd ≤ 1000000 - b) (hfst : fst = true → fd = 0) :
    DenY Try.prog 57 [aT D A fst w b fd pre] (VsOk D A fst w (vis D A (f + 1) pre) pre b fd) (fun r => [aT D A fst w r.1 r.2.1 r.2.2]) (fun _ => .tup []) := by
  have hn6 := h.few
  have hlA := h.len
  have hlt : pre.length < D.length := by omega
  have hw0 : IntKind.i64.wrap (b - 1) = b - 1 := wrap64 (by omega) (by omega)
  have htk : List.take pre.length pre = pre := List.take_length
  have hsm : Small pre := fun k hk => by have := part_small h hp hpl k hk; omega
  refine denY_of_awpG (ghs [] [58]) Try.func57 rfl (by kernel_rfl) (Nat.le_of_ble_eq_true rfl) (by simp +decide only [w_embA_nil, w_embA_cons, w_emb_v, w_emb_ol, w_emb_op, w_emb_agg, w_emb_tup, w_embL_nil, w_embL_cons, embL_i, List.map_cons, List.map_nil, List.nil_append, List.append_nil, List.cons_append, List.nodup_cons, List.nodup_nil, List.mem_cons, List.mem_nil_iff, List.not_mem_nil, ch_ch, ch_lit, lit_ch, Nat.reduceAdd]) mixed (by kernel_rfl) fun hl => ?_
  simp only [xlensL, xlens, lensL, lens, lensL_i, lensL_mapC, xlensL_i, maxI, and_true, true_and] at hl
  rw [Try.ntmps57]
  refine ex_start ?_
  by_cases hb : b - 1 < 0
  · simp (config := { maxSteps := 1000000 }) +decide only [NoH, Old, OldL, nilQ, nilA, RechL, ReY, isNew, stepO, XPost, postN, XOk, updN, updU, isEff, avalue, aeff, ASt.eval, ASt.put, ASt.set, ASt.new, Nat.reduceDiv, Nat.reduceAdd, Int.reduceToNat, absV, absC, scalar, alen, acap, conc, flats, live, blkOf, aload, rd, part?, afieldAddr, afield, aindexAddr, cellsOf, afill, places, abuild, optI, asliceV, asliceS, szOk, srcCells, aappend, astore, amakeSlice, abuildSlice, snapL, mapO, treeL, AVal.tree, AVal.flatT, isFlat, ares, isFz, afroz, afrozB, lookupA, lookupH, tops, if_true, if_false, reduceCtorEq, forall_const, ite_true, ite_false, implies_true, walkS, tabS, Try.results57, hw0, eq_true hb, htk]
    refine yret (b - 1, fd, pre) (vsOk_none (vis_pos D A (f + 1) pre) hpl (by omega)) ?_
    simp (config := { maxSteps := 1000000 }) +decide only [NoH, Old, OldL, nilQ, nilA, RechL, ReY, isNew, stepO, XPost, postN, XOk, updN, updU, isEff, avalue, aeff, ASt.eval, ASt.put, ASt.set, ASt.new, Nat.reduceDiv, Nat.reduceAdd, Int.reduceToNat, absV, absC, scalar, alen, acap, conc, flats, live, blkOf, aload, rd, part?, afieldAddr, afield, aindexAddr, cellsOf, afill, places, abuild, optI, asliceV, asliceS, szOk, srcCells, aappend, astore, amakeSlice, abuildSlice, snapL, mapO, treeL, AVal.tree, AVal.flatT, isFlat, ares, isFz, afroz, afrozB, lookupA, lookupH, tops, if_true, if_false, reduceCtorEq, forall_const, ite_true, ite_false, implies_true, walkS, tabS, Try.results57, htk, one_0]
  have hne : ¬ pre.length = D.length := by omega
  have eD : D.getD pre.length [] = D[pre.length] := by rw [List.getD_eq_getElem?_getD, List.getElem?_eq_getElem hlt, Option.getD_some]
  have hch := denx_choices h pre pre.length hpl hlt hsm
  have eC : chs D A pre pre.length D[pre.length].length = nch D A pre := by unfold nch; rw [eD]
  rw [eC] at hch
  have hpc : ∀ c ∈ nch D A pre, Part D A (pre ++ [c]) := fun c hc => nch_part h hp hlt hc
  have hCl : (nch D A pre).length ≤ 15 := by
    have h1 := chs_le D A pre pre.length (D.getD pre.length []).length
    have h2 := (h.dom _ (List.getElem_mem hlt)).few
    rw [← eD] at h2
    unfold nch
    omega
  simp (config := { maxSteps := 1000000 }) +decide only [NoH, Old, OldL, nilQ, nilA, RechL, ReY, isNew, stepO, XPost, postN, XOk, updN, updU, isEff, avalue, aeff, ASt.eval, ASt.put, ASt.set, ASt.new, Nat.reduceDiv, Nat.reduceAdd, Int.reduceToNat, absV, absC, scalar, alen, acap, conc, flats, live, blkOf, aload, rd, part?, afieldAddr, afield, aindexAddr, cellsOf, afill, places, abuild, optI, asliceV, asliceS, szOk, srcCells, aappend, astore, amakeSlice, abuildSlice, snapL, mapO, treeL, AVal.tree, AVal.flatT, isFlat, ares, isFz, afroz, afrozB, lookupA, lookupH, tops, if_true, if_false, reduceCtorEq, forall_const, ite_true, ite_false, implies_true, walkS, tabS, Try.results57, hw0, eq_false hb, htk, eq_false hne]
  refine callX (hch) (by simp (config := { maxSteps := 1000000 }) +decide only [NoH, Old, OldL, nilQ, nilA, RechL, ReY, isNew, stepO, XPost, postN, XOk, updN, updU, isEff, avalue, aeff, ASt.eval, ASt.put, ASt.set, ASt.new, Nat.reduceDiv, Nat.reduceAdd, Int.reduceToNat, absV, absC, scalar, alen, acap, conc, flats, live, blkOf, aload, rd, part?, afieldAddr, afield, aindexAddr, cellsOf, afill, places, abuild, optI, asliceV, asliceS, szOk, srcCells, aappend, astore, amakeSlice, abuildSlice, snapL, mapO, treeL, AVal.tree, AVal.flatT, isFlat, ares, isFz, afroz, afrozB, lookupA, lookupH, tops, if_true, if_false, reduceCtorEq, forall_const, ite_true, ite_false, implies_true, walkS, tabS, Try.results57, htk]) ?_
  have hend := fun r => vsOk_end (D := D) (A := A) (fst := fst) (w := w) (f := f) (pre := pre) (b := b) (fd := fd) (r := r)
  have hzero := vsI_zero (D := D) (A := A) (fst := fst) (w := w) (f := f) (pre := pre) (b := b) (fd := fd) (by omega)
  obtain ⟨C, hC⟩ : ∃ C, nch D A pre = C := ⟨_, rfl⟩
  rw [hC] at hpc hCl ⊢
  simp (config := { maxSteps := 1000000 }) +decide only [NoH, Old, OldL, nilQ, nilA, RechL, ReY, isNew, stepO, XPost, postN, XOk, updN, updU, isEff, avalue, aeff, ASt.eval, ASt.put, ASt.set, ASt.new, Nat.reduceDiv, Nat.reduceAdd, Int.reduceToNat, absV, absC, scalar, alen, acap, conc, flats, live, blkOf, aload, rd, part?, afieldAddr, afield, aindexAddr, cellsOf, afill, places, abuild, optI, asliceV, asliceS, szOk, srcCells, aappend, astore, amakeSlice, abuildSlice, snapL, mapO, treeL, AVal.tree, AVal.flatT, isFlat, ares, isFz, afroz, afrozB, lookupA, lookupH, tops, if_true, if_false, reduceCtorEq, forall_const, ite_true, ite_false, implies_true, walkS, tabS, Try.results57, htk]
  refine ex_loop (fun p : {p : Nat × (Int × Int) × (Nat × Nat) × List Int // p.1 ≤ C.length ∧ VsI D A fst w f pre b fd p.1 p.2.1} => mkG (ghs [] [58]) [(0, .ptr 0 0 0), (2, .i pre.length), (46, .own 46 1 0 C.length), (47, .i C.length), (48, .i p.1.1)] [(0, ⟨0, 7, [intss D, intss A, .i p.1.2.1.1, .b fst, .i w, .own (Own.ch 0 5) p.1.2.2.1.1 0 pre.length, .i p.1.2.1.2]⟩), (Own.ch 0 5, ⟨p.1.2.2.1.1, 1, mapC AVal.i (pre ++ p.1.2.2.2)⟩), (46, ⟨1, 1, mapC AVal.i C⟩)] p.1.2.2.1.2 102) (fun p => C.length - p.1.1) ⟨(0, (b - 1, fd), (0, 2), []), Nat.zero_le _, hzero⟩ ?_ ?_
  · refine weak_mk rfl (by first | exact Nat.le_refl _ | (simp only [mk_gen]; omega)) ?_ ?_ <;> simp +decide only [w_lookup_nil, w_lookup_cons, ch_ch, ch_lit, lit_ch, wkT, wkH, wkB, WVL, WV_refl', Int.natCast_zero, Int.natCast_add, Int.natCast_one, Nat.sub_self, Nat.sub_zero, List.replicate_zero, List.take_zero, List.nil_append, List.append_nil, fillC_zero, Nat.reduceDiv, Nat.reduceAdd, upd_bk, bk_at, getB_zero, getB_succ, modB_zero, modB_succ, rows_lit, repB_zero, repB_succ, List.length_cons, List.length_nil, upd_upd_same, upd_apply, mk_tmp, mk_heap, mk_gen, lookupA, lookupH, List.getD_cons_zero, List.getD_cons_succ, init_two, tops, Bool.true_and, and_self, and_true, true_and, true_or, if_true, if_false, ite_true, ite_false, reduceCtorEq, reduceIte, List.append_nil]
  rintro ⟨⟨k, ⟨b1, f1⟩, ⟨g5, G⟩, tl⟩, k1, k2⟩
  have k1' : k ≤ C.length := k1
  have hI : VsI D A fst w f pre b fd k (b1, f1) := k2
  have i1 := hI.lo
  have i2 := hI.hi
  have i3 := hI.fl
  have i4 := hI.fh
  simp only at i1 i2 i3 i4
  have hf1 : fst = true → f1 = 0 := fun hft => by
    rcases hI.res with ⟨e, _⟩ | ⟨e, _⟩
    · have := hfst hft
      have e' : f1 = fd := e
      omega
    · rw [hft] at e; simp at e
  have htl : List.take pre.length (pre ++ tl) = pre := by rw [List.take_append_of_le_length (Nat.le_refl _), List.take_length]
  have hll : (pre ++ tl).length = pre.length + tl.length := List.length_append
  by_cases klt : k < C.length
  case neg =>
    have kI : ¬ (k : Int) < (C.length : Int) := by omega
    have e : k = (nch D A pre).length := by rw [hC]; omega
    rw [e] at hI
    simp (config := { maxSteps := 1000000 }) +decide only [NoH, Old, OldL, nilQ, nilA, RechL, ReY, isNew, stepO, XPost, postN, XOk, updN, updU, isEff, avalue, aeff, ASt.eval, ASt.put, ASt.set, ASt.new, Nat.reduceDiv, Nat.reduceAdd, Int.reduceToNat, absV, absC, scalar, alen, acap, conc, flats, live, blkOf, aload, rd, part?, afieldAddr, afield, aindexAddr, cellsOf, afill, places, abuild, optI, asliceV, asliceS, szOk, srcCells, aappend, astore, amakeSlice, abuildSlice, snapL, mapO, treeL, AVal.tree, AVal.flatT, isFlat, ares, isFz, afroz, afrozB, lookupA, lookupH, tops, if_true, if_false, reduceCtorEq, forall_const, ite_true, ite_false, implies_true, walkS, tabS, Try.results57, eq_false kI]
    refine yret (b1, f1, pre) (hend (b1, f1) hI hlt) ?_
    simp (config := { maxSteps := 1000000 }) +decide only [NoH, Old, OldL, nilQ, nilA, RechL, ReY, isNew, stepO, XPost, postN, XOk, updN, updU, isEff, avalue, aeff, ASt.eval, ASt.put, ASt.set, ASt.new, Nat.reduceDiv, Nat.reduceAdd, Int.reduceToNat, absV, absC, scalar, alen, acap, conc, flats, live, blkOf, aload, rd, part?, afieldAddr, afield, aindexAddr, cellsOf, afill, places, abuild, optI, asliceV, asliceS, szOk, srcCells, aappend, astore, amakeSlice, abuildSlice, snapL, mapO, treeL, AVal.tree, AVal.flatT, isFlat, ares, isFz, afroz, afrozB, lookupA, lookupH, tops, if_true, if_false, reduceCtorEq, forall_const, ite_true, ite_false, implies_true, walkS, tabS, Try.results57, htl, hll, one_0, Nat.le_add_right]
  have kI : (k : Int) < (C.length : Int) := by omega
  have kN : k < (nch D A pre).length := by rw [hC]; exact klt
  obtain ⟨c, hc⟩ : ∃ c, C[k] = c := ⟨_, rfl⟩
  have hcN : (nch D A pre)[k] = c := by
    rw [← hc]
    congr
  have hpc1 : Part D A (pre ++ [c]) := hpc c (by rw [← hc]; exact List.getElem_mem klt)
  have wk : IntKind.i64.wrap ((k : Int) + 1) = ((k + 1 : Nat) : Int) := wrap64 (by omega) (by omega)
  have h8 : (pre.length + 1) * 8 ≤ 140737488355328 := by omega
  have hlc : (pre ++ [c]).length = pre.length + 1 := by simp
  have hr0 : 0 < (pre ++ [c]).length := by omega
  have htc : List.take (pre.length + 1) (pre ++ [c]) = pre ++ [c] := List.take_of_length_le (by omega)
  have hl1 : pre.length ≤ pre.length + 1 := by omega
  have hl3 : pre.length < (pre ++ [c]).length := by omega
  have hin : ∀ x ∈ pre ++ [c], 0 ≤ x ∧ x ≤ 999 := fun x hx => by
    obtain ⟨i, hi, rfl⟩ := List.getElem_of_mem hx
    have := part_small h hpc1 (by omega) i hi
    omega
  have hso := den_SpanOf (pre ++ [c]) hr0 hin
  have hiff := sp_iff hr0 w
  generalize mostOf (pre ++ [c])[0] (pre ++ [c]) - leastOf (pre ++ [c])[0] (pre ++ [c]) = sp at hso hiff
  have hso2 : Den Try.prog 13 [.lst (mapC AVal.i (pre ++ [c])) (pre.length + 1)] (.i sp) := by rw [← hlc]; exact hso
  simp (config := { maxSteps := 1000000 }) +decide only [NoH, Old, OldL, nilQ, nilA, RechL, ReY, isNew, stepO, XPost, postN, XOk, updN, updU, isEff, avalue, aeff, ASt.eval, ASt.put, ASt.set, ASt.new, Nat.reduceDiv, Nat.reduceAdd, Int.reduceToNat, absV, absC, scalar, alen, acap, conc, flats, live, blkOf, aload, rd, part?, afieldAddr, afield, aindexAddr, cellsOf, afill, places, abuild, optI, asliceV, asliceS, szOk, srcCells, aappend, astore, amakeSlice, abuildSlice, snapL, mapO, treeL, AVal.tree, AVal.flatT, isFlat, ares, isFz, afroz, afrozB, lookupA, lookupH, tops, if_true, if_false, reduceCtorEq, forall_const, ite_true, ite_false, implies_true, walkS, tabS, Try.results57, eq_true kI, klt, hc, h8, htl, hll, Nat.le_add_right, List.replicate_succ, List.flatten_cons, List.flatten_nil, mapC_snoc, htc, hl1, hl3]
  refine callK (hso2) (by first | exact .inl rfl | exact .inr rfl) ?_
  by_cases hs : sp ≤ w
  case neg =>
    have hft : fst = true := by
      cases hfe : fst
      · exfalso
        have := hw hfe
        exact hs (hiff.2 fun x hx y hy => by have := hin x hx; have := hin y hy; omega)
      · rfl
    subst hft
    have hf0 : f1 = 0 := hf1 rfl
    have hI2 := vsI_skip hI kN rfl (by rw [hcN]; exact fun h => hs (hiff.2 h))
    have hb2 : ¬ b1 < 0 := by omega
    have hz : ¬ (0 : Int) < f1 := by omega
    simp (config := { maxSteps := 1000000 }) +decide only [NoH, Old, OldL, nilQ, nilA, RechL, ReY, isNew, stepO, XPost, postN, XOk, updN, updU, isEff, avalue, aeff, ASt.eval, ASt.put, ASt.set, ASt.new, Nat.reduceDiv, Nat.reduceAdd, Int.reduceToNat, absV, absC, scalar, alen, acap, conc, flats, live, blkOf, aload, rd, part?, afieldAddr, afield, aindexAddr, cellsOf, afill, places, abuild, optI, asliceV, asliceS, szOk, srcCells, aappend, astore, amakeSlice, abuildSlice, snapL, mapO, treeL, AVal.tree, AVal.flatT, isFlat, ares, isFz, afroz, afrozB, lookupA, lookupH, tops, if_true, if_false, reduceCtorEq, forall_const, ite_true, ite_false, implies_true, walkS, tabS, Try.results57, eq_false hs, eq_false hb2, eq_false hz, htl, htc, hl1, hl3, wk, Nat.zero_le]
    refine ⟨⟨(k + 1, (b1, f1), (G, G + 1), [c]), klt, hI2⟩, ?_, by show C.length - (k + 1) < C.length - k; omega⟩
    refine weak_mk rfl (by first | exact Nat.le_refl _ | (simp only [mk_gen]; omega)) ?_ ?_ <;> simp +decide only [w_lookup_nil, w_lookup_cons, ch_ch, ch_lit, lit_ch, wkT, wkH, wkB, WVL, WV_refl', Int.natCast_zero, Int.natCast_add, Int.natCast_one, Nat.sub_self, Nat.sub_zero, List.replicate_zero, List.take_zero, List.nil_append, List.append_nil, fillC_zero, Nat.reduceDiv, Nat.reduceAdd, upd_bk, bk_at, getB_zero, getB_succ, modB_zero, modB_succ, rows_lit, repB_zero, repB_succ, List.length_cons, List.length_nil, upd_upd_same, upd_apply, mk_tmp, mk_heap, mk_gen, lookupA, lookupH, List.getD_cons_zero, List.getD_cons_succ, init_two, tops, Bool.true_and, and_self, and_true, true_and, true_or, if_true, if_false, ite_true, ite_false, reduceCtorEq, reduceIte]
  have hsp1 : Sp (pre ++ [c]) w := hiff.1 hs
  have hx := ih (pre ++ [c]) b1 f1 (by omega) (by omega) hpc1 hsp1 i1 (by omega) (by omega) (by omega) hf1
  simp only [aT, xints, hlc] at hx
  simp (config := { maxSteps := 1000000 }) +decide only [NoH, Old, OldL, nilQ, nilA, RechL, ReY, isNew, stepO, XPost, postN, XOk, updN, updU, isEff, avalue, aeff, ASt.eval, ASt.put, ASt.set, ASt.new, Nat.reduceDiv, Nat.reduceAdd, Int.reduceToNat, absV, absC, scalar, alen, acap, conc, flats, live, blkOf, aload, rd, part?, afieldAddr, afield, aindexAddr, cellsOf, afill, places, abuild, optI, asliceV, asliceS, szOk, srcCells, aappend, astore, amakeSlice, abuildSlice, snapL, mapO, treeL, AVal.tree, AVal.flatT, isFlat, ares, isFz, afroz, afrozB, lookupA, lookupH, tops, if_true, if_false, reduceCtorEq, forall_const, ite_true, ite_false, implies_true, walkS, tabS, Try.results57, eq_true hs]
  refine callY (hx) (by simp (config := { maxSteps := 1000000 }) +decide only [NoH, Old, OldL, nilQ, nilA, RechL, ReY, isNew, stepO, XPost, postN, XOk, updN, updU, isEff, avalue, aeff, ASt.eval, ASt.put, ASt.set, ASt.new, Nat.reduceDiv, Nat.reduceAdd, Int.reduceToNat, absV, absC, scalar, alen, acap, conc, flats, live, blkOf, aload, rd, part?, afieldAddr, afield, aindexAddr, cellsOf, afill, places, abuild, optI, asliceV, asliceS, szOk, srcCells, aappend, astore, amakeSlice, abuildSlice, snapL, mapO, treeL, AVal.tree, AVal.flatT, isFlat, ares, isFz, afroz, afrozB, lookupA, lookupH, tops, if_true, if_false, reduceCtorEq, forall_const, ite_true, ite_false, implies_true, walkS, tabS, Try.results57, htc, hl3]) (fun i hi => by simp (config := { maxSteps := 1000000 }) +decide only [NoH, Old, OldL, nilQ, nilA, RechL, ReY, isNew, stepO, XPost, postN, XOk, updN, updU, isEff, avalue, aeff, ASt.eval, ASt.put, ASt.set, ASt.new, Nat.reduceDiv, Nat.reduceAdd, Int.reduceToNat, absV, absC, scalar, alen, acap, conc, flats, live, blkOf, aload, rd, part?, afieldAddr, afield, aindexAddr, cellsOf, afill, places, abuild, optI, asliceV, asliceS, szOk, srcCells, aappend, astore, amakeSlice, abuildSlice, snapL, mapO, treeL, AVal.tree, AVal.flatT, isFlat, ares, isFz, afroz, afrozB, lookupA, lookupH, tops, if_true, if_false, reduceCtorEq, forall_const, ite_true, ite_false, implies_true, walkS, tabS, Try.results57, htc, hl3]) ?_
  rintro ⟨b2, f2, L2⟩ hv
  have hv' : VsOk D A fst w (vis D A f (pre ++ [(nch D A pre)[k]])) (pre ++ [(nch D A pre)[k]]) b1 f1 (b2, f2, L2) := by rw [hcN]; exact hv
  have htL : List.take L2.length L2 = L2 := List.take_length
  by_cases hb2 : b2 < 0
  · have hO := vsOk_out (r := (b1, f1)) hI kN hv' hb2
    simp (config := { maxSteps := 1000000 }) +decide only [NoH, Old, OldL, nilQ, nilA, RechL, ReY, isNew, stepO, XPost, postN, XOk, updN, updU, isEff, avalue, aeff, ASt.eval, ASt.put, ASt.set, ASt.new, Nat.reduceDiv, Nat.reduceAdd, Int.reduceToNat, absV, absC, scalar, alen, acap, conc, flats, live, blkOf, aload, rd, part?, afieldAddr, afield, aindexAddr, cellsOf, afill, places, abuild, optI, asliceV, asliceS, szOk, srcCells, aappend, astore, amakeSlice, abuildSlice, snapL, mapO, treeL, AVal.tree, AVal.flatT, isFlat, ares, isFz, afroz, afrozB, lookupA, lookupH, tops, if_true, if_false, reduceCtorEq, forall_const, ite_true, ite_false, implies_true, walkS, tabS, Try.results57, eq_true hb2]
    refine yret (b2, f2, L2) hO ?_
    simp (config := { maxSteps := 1000000 }) +decide only [NoH, Old, OldL, nilQ, nilA, RechL, ReY, isNew, stepO, XPost, postN, XOk, updN, updU, isEff, avalue, aeff, ASt.eval, ASt.put, ASt.set, ASt.new, Nat.reduceDiv, Nat.reduceAdd, Int.reduceToNat, absV, absC, scalar, alen, acap, conc, flats, live, blkOf, aload, rd, part?, afieldAddr, afield, aindexAddr, cellsOf, afill, places, abuild, optI, asliceV, asliceS, szOk, srcCells, aappend, astore, amakeSlice, abuildSlice, snapL, mapO, treeL, AVal.tree, AVal.flatT, isFlat, ares, isFz, afroz, afrozB, lookupA, lookupH, tops, if_true, if_false, reduceCtorEq, forall_const, ite_true, ite_false, implies_true, walkS, tabS, Try.results57, htL, one_0]
  have hb3 : 0 ≤ b2 := by omega
  rcases hv.res hb3 with ⟨n1, n2, n3⟩ | ⟨n1, n2, n3⟩
  · have n1' : f2 = f1 := n1
    have n2' : L2 = pre ++ [c] := n2
    subst n2'
    have hI2 := vsI_none (r := (b1, f1)) hI kN hv' hb3 ⟨n1, by rw [hcN]; exact n3⟩
    have hb4 : ¬ b2 < 0 := hb2
    cases fst
    case false =>
      simp (config := { maxSteps := 1000000 }) +decide only [NoH, Old, OldL, nilQ, nilA, RechL, ReY, isNew, stepO, XPost, postN, XOk, updN, updU, isEff, avalue, aeff, ASt.eval, ASt.put, ASt.set, ASt.new, Nat.reduceDiv, Nat.reduceAdd, Int.reduceToNat, absV, absC, scalar, alen, acap, conc, flats, live, blkOf, aload, rd, part?, afieldAddr, afield, aindexAddr, cellsOf, afill, places, abuild, optI, asliceV, asliceS, szOk, srcCells, aappend, astore, amakeSlice, abuildSlice, snapL, mapO, treeL, AVal.tree, AVal.flatT, isFlat, ares, isFz, afroz, afrozB, lookupA, lookupH, tops, if_true, if_false, reduceCtorEq, forall_const, ite_true, ite_false, implies_true, walkS, tabS, Try.results57, eq_false hb2, htc, hlc, hl1, hl3, wk, Nat.zero_le]
      refine ⟨⟨(k + 1, (b2, f2), (G + 1, G + 2), [c]), klt, hI2⟩, ?_, by show C.length - (k + 1) < C.length - k; omega⟩
      refine weak_mk rfl (by first | exact Nat.le_refl _ | (simp only [mk_gen]; omega)) ?_ ?_ <;> simp +decide only [w_lookup_nil, w_lookup_cons, ch_ch, ch_lit, lit_ch, wkT, wkH, wkB, WVL, WV_refl', Int.natCast_zero, Int.natCast_add, Int.natCast_one, Nat.sub_self, Nat.sub_zero, List.replicate_zero, List.take_zero, List.nil_append, List.append_nil, fillC_zero, Nat.reduceDiv, Nat.reduceAdd, upd_bk, bk_at, getB_zero, getB_succ, modB_zero, modB_succ, rows_lit, repB_zero, repB_succ, List.length_cons, List.length_nil, upd_upd_same, upd_apply, mk_tmp, mk_heap, mk_gen, lookupA, lookupH, List.getD_cons_zero, List.getD_cons_succ, init_two, tops, Bool.true_and, and_self, and_true, true_and, true_or, if_true, if_false, ite_true, ite_false, reduceCtorEq, reduceIte]
    case true =>
      have hz : ¬ (0 : Int) < f2 := by have := hf1 rfl; omega
      simp (config := { maxSteps := 1000000 }) +decide only [NoH, Old, OldL, nilQ, nilA, RechL, ReY, isNew, stepO, XPost, postN, XOk, updN, updU, isEff, avalue, aeff, ASt.eval, ASt.put, ASt.set, ASt.new, Nat.reduceDiv, Nat.reduceAdd, Int.reduceToNat, absV, absC, scalar, alen, acap, conc, flats, live, blkOf, aload, rd, part?, afieldAddr, afield, aindexAddr, cellsOf, afill, places, abuild, optI, asliceV, asliceS, szOk, srcCells, aappend, astore, amakeSlice, abuildSlice, snapL, mapO, treeL, AVal.tree, AVal.flatT, isFlat, ares, isFz, afroz, afrozB, lookupA, lookupH, tops, if_true, if_false, reduceCtorEq, forall_const, ite_true, ite_false, implies_true, walkS, tabS, Try.results57, eq_false hb2, eq_false hz, htc, hlc, hl1, hl3, wk, Nat.zero_le]
      refine ⟨⟨(k + 1, (b2, f2), (G + 1, G + 2), [c]), klt, hI2⟩, ?_, by show C.length - (k + 1) < C.length - k; omega⟩
      refine weak_mk rfl (by first | exact Nat.le_refl _ | (simp only [mk_gen]; omega)) ?_ ?_ <;> simp +decide only [w_lookup_nil, w_lookup_cons, ch_ch, ch_lit, lit_ch, wkT, wkH, wkB, WVL, WV_refl', Int.natCast_zero, Int.natCast_add, Int.natCast_one, Nat.sub_self, Nat.sub_zero, List.replicate_zero, List.take_zero, List.nil_append, List.append_nil, fillC_zero, Nat.reduceDiv, Nat.reduceAdd, upd_bk, bk_at, getB_zero, getB_succ, modB_zero, modB_succ, rows_lit, repB_zero, repB_succ, List.length_cons, List.length_nil, upd_upd_same, upd_apply, mk_tmp, mk_heap, mk_gen, lookupA, lookupH, List.getD_cons_zero, List.getD_cons_succ, init_two, tops, Bool.true_and, and_self, and_true, true_and, true_or, if_true, if_false, ite_true, ite_false, reduceCtorEq, reduceIte]
  · have n1' : f1 < f2 := n1
    cases fst
    case false =>
      have n2' : L2 = pre ++ [c] := n2 rfl
      subst n2'
      obtain ⟨s, s1, s2, _⟩ := n3
      have hI2 := vsI_more (r := (b1, f1)) hI kN hv' hb3 rfl ⟨n1, s, s1, s2⟩
      simp (config := { maxSteps := 1000000 }) +decide only [NoH, Old, OldL, nilQ, nilA, RechL, ReY, isNew, stepO, XPost, postN, XOk, updN, updU, isEff, avalue, aeff, ASt.eval, ASt.put, ASt.set, ASt.new, Nat.reduceDiv, Nat.reduceAdd, Int.reduceToNat, absV, absC, scalar, alen, acap, conc, flats, live, blkOf, aload, rd, part?, afieldAddr, afield, aindexAddr, cellsOf, afill, places, abuild, optI, asliceV, asliceS, szOk, srcCells, aappend, astore, amakeSlice, abuildSlice, snapL, mapO, treeL, AVal.tree, AVal.flatT, isFlat, ares, isFz, afroz, afrozB, lookupA, lookupH, tops, if_true, if_false, reduceCtorEq, forall_const, ite_true, ite_false, implies_true, walkS, tabS, Try.results57, eq_false hb2, htc, hlc, hl1, hl3, wk, Nat.zero_le]
      refine ⟨⟨(k + 1, (b2, f2), (G + 1, G + 2), [c]), klt, hI2⟩, ?_, by show C.length - (k + 1) < C.length - k; omega⟩
      refine weak_mk rfl (by first | exact Nat.le_refl _ | (simp only [mk_gen]; omega)) ?_ ?_ <;> simp +decide only [w_lookup_nil, w_lookup_cons, ch_ch, ch_lit, lit_ch, wkT, wkH, wkB, WVL, WV_refl', Int.natCast_zero, Int.natCast_add, Int.natCast_one, Nat.sub_self, Nat.sub_zero, List.replicate_zero, List.take_zero, List.nil_append, List.append_nil, fillC_zero, Nat.reduceDiv, Nat.reduceAdd, upd_bk, bk_at, getB_zero, getB_succ, modB_zero, modB_succ, rows_lit, repB_zero, repB_succ, List.length_cons, List.length_nil, upd_upd_same, upd_apply, mk_tmp, mk_heap, mk_gen, lookupA, lookupH, List.getD_cons_zero, List.getD_cons_succ, init_two, tops, Bool.true_and, and_self, and_true, true_and, true_or, if_true, if_false, ite_true, ite_false, reduceCtorEq, reduceIte]
    case true =>
      have hF := vsOk_found (r := (b1, f1)) hI kN hv' rfl ⟨n1, n3⟩
      have hz : (0 : Int) < f2 := by have := hf1 rfl; omega
      simp (config := { maxSteps := 1000000 }) +decide only [NoH, Old, OldL, nilQ, nilA, RechL, ReY, isNew, stepO, XPost, postN, XOk, updN, updU, isEff, avalue, aeff, ASt.eval, ASt.put, ASt.set, ASt.new, Nat.reduceDiv, Nat.reduceAdd, Int.reduceToNat, absV, absC, scalar, alen, acap, conc, flats, live, blkOf, aload, rd, part?, afieldAddr, afield, aindexAddr, cellsOf, afill, places, abuild, optI, asliceV, asliceS, szOk, srcCells, aappend, astore, amakeSlice, abuildSlice, snapL, mapO, treeL, AVal.tree, AVal.flatT, isFlat, ares, isFz, afroz, afrozB, lookupA, lookupH, tops, if_true, if_false, reduceCtorEq, forall_const, ite_true, ite_false, implies_true, walkS, tabS, Try.results57, eq_false hb2, eq_true hz]
      refine yret (b2, f2, L2) hF ?_
      simp (config := { maxSteps := 1000000 }) +decide only [NoH, Old, OldL, nilQ, nilA, RechL, ReY, isNew, stepO, XPost, postN, XOk, updN, updU, isEff, avalue, aeff, ASt.eval, ASt.put, ASt.set, ASt.new, Nat.reduceDiv, Nat.reduceAdd, Int.reduceToNat, absV, absC, scalar, alen, acap, conc, flats, live, blkOf, aload, rd, part?, afieldAddr, afield, aindexAddr, cellsOf, afill, places, abuild, optI, asliceV, asliceS, szOk, srcCells, aappend, astore, amakeSlice, abuildSlice, snapL, mapO, treeL, AVal.tree, AVal.flatT, isFlat, ares, isFz, afroz, afrozB, lookupA, lookupH, tops, if_true, if_false, reduceCtorEq, forall_const, ite_true, ite_false, implies_true, walkS, tabS, Try.results57, htL, one_0]
theorem deny_assignLeaf {D A : List (List Int)} (h : PrD D A) (fst : Bool) (w : Int)
    (pre : List Int) (b fd : Int) (hf : D.length = pre.length) (hp : Part D A pre) (hsp : Sp pre w) (hb0 : 0 ≤ b) (hb1 : b ≤ 20000) (hfd0 : 0 ≤ fd) (hfd1 : fd ≤ 1000000 - b) :
    DenY Try.prog 57 [aT D A fst w b fd pre] (VsOk D A fst w (vis D A 0 pre) pre b fd) (fun r => [aT D A fst w r.1 r.2.1 r.2.2]) (fun _ => .tup []) := by
  have hn6 := h.few
  have hw0 : IntKind.i64.wrap (b - 1) = b - 1 := wrap64 (by omega) (by omega)
  have hw1 : IntKind.i64.wrap (fd + 1) = fd + 1 := wrap64 (by omega) (by omega)
  have htk : List.take pre.length pre = pre := List.take_length
  refine denY_of_awpG (ghs [] [58]) Try.func57 rfl (by kernel_rfl) (Nat.le_of_ble_eq_true rfl) (by simp +decide only [w_embA_nil, w_embA_cons, w_emb_v, w_emb_ol, w_emb_op, w_emb_agg, w_emb_tup, w_embL_nil, w_embL_cons, embL_i, List.map_cons, List.map_nil, List.nil_append, List.append_nil, List.cons_append, List.nodup_cons, List.nodup_nil, List.mem_cons, List.mem_nil_iff, List.not_mem_nil, ch_ch, ch_lit, lit_ch, Nat.reduceAdd]) mixed (by kernel_rfl) fun hl => ?_
  simp only [xlensL, xlens, lensL, lens, lensL_i, lensL_mapC, xlensL_i, maxI, and_true, true_and] at hl
  rw [Try.ntmps57]
  refine ex_start ?_
  by_cases hb : b - 1 < 0
  · simp (config := { maxSteps := 1000000 }) +decide only [NoH, Old, OldL, nilQ, nilA, RechL, ReY, isNew, stepO, XPost, postN, XOk, updN, updU, isEff, avalue, aeff, ASt.eval, ASt.put, ASt.set, ASt.new, Nat.reduceDiv, Nat.reduceAdd, Int.reduceToNat, absV, absC, scalar, alen, acap, conc, flats, live, blkOf, aload, rd, part?, afieldAddr, afield, aindexAddr, cellsOf, afill, places, abuild, optI, asliceV, asliceS, szOk, srcCells, aappend, astore, amakeSlice, abuildSlice, snapL, mapO, treeL, AVal.tree, AVal.flatT, isFlat, ares, isFz, afroz, afrozB, lookupA, lookupH, tops, if_true, if_false, reduceCtorEq, forall_const, ite_true, ite_false, implies_true, walkS, tabS, Try.results57, hw0, eq_true hb, htk]
    refine yret (b - 1, fd, pre) (vsOk_none (Nat.le_refl _) (by omega) (by omega)) ?_
    simp (config := { maxSteps := 1000000 }) +decide only [NoH, Old, OldL, nilQ, nilA, RechL, ReY, isNew, stepO, XPost, postN, XOk, updN, updU, isEff, avalue, aeff, ASt.eval, ASt.put, ASt.set, ASt.new, Nat.reduceDiv, Nat.reduceAdd, Int.reduceToNat, absV, absC, scalar, alen, acap, conc, flats, live, blkOf, aload, rd, part?, afieldAddr, afield, aindexAddr, cellsOf, afill, places, abuild, optI, asliceV, asliceS, szOk, srcCells, aappend, astore, amakeSlice, abuildSlice, snapL, mapO, treeL, AVal.tree, AVal.flatT, isFlat, ares, isFz, afroz, afrozB, lookupA, lookupH, tops, if_true, if_false, reduceCtorEq, forall_const, ite_true, ite_false, implies_true, walkS, tabS, Try.results57, htk, one_0]
  have he : pre.length = D.length := hf.symm
  simp (config := { maxSteps := 1000000 }) +decide only [NoH, Old, OldL, nilQ, nilA, RechL, ReY, isNew, stepO, XPost, postN, XOk, updN, updU, isEff, avalue, aeff, ASt.eval, ASt.put, ASt.set, ASt.new, Nat.reduceDiv, Nat.reduceAdd, Int.reduceToNat, absV, absC, scalar, alen, acap, conc, flats, live, blkOf, aload, rd, part?, afieldAddr, afield, aindexAddr, cellsOf, afill, places, abuild, optI, asliceV, asliceS, szOk, srcCells, aappend, astore, amakeSlice, abuildSlice, snapL, mapO, treeL, AVal.tree, AVal.flatT, isFlat, ares, isFz, afroz, afrozB, lookupA, lookupH, tops, if_true, if_false, reduceCtorEq, forall_const, ite_true, ite_false, implies_true, walkS, tabS, Try.results57, hw0, hw1, eq_false hb, htk, eq_true he]
  refine yret (b - 1, fd + 1, pre) (vsOk_leaf he hp hsp (by omega)) ?_
  simp (config := { maxSteps := 1000000 }) +decide only [NoH, Old, OldL, nilQ, nilA, RechL, ReY, isNew, stepO, XPost, postN, XOk, updN, updU, isEff, avalue, aeff, ASt.eval, ASt.put, ASt.set, ASt.new, Nat.reduceDiv, Nat.reduceAdd, Int.reduceToNat, absV, absC, scalar, alen, acap, conc, flats, live, blkOf, aload, rd, part?, afieldAddr, afield, aindexAddr, cellsOf, afill, places, abuild, optI, asliceV, asliceS, szOk, srcCells, aappend, astore, amakeSlice, abuildSlice, snapL, mapO, treeL, AVal.tree, AVal.flatT, isFlat, ares, isFz, afroz, afrozB, lookupA, lookupH, tops, if_true, if_false, reduceCtorEq, forall_const, ite_true, ite_false, implies_true, walkS, tabS, Try.results57, htk, one_0]
theorem deny_assign {D A : List (List Int)} (h : PrD D A) (fst : Bool) (w : Int) (hw : fst = false → w = 999) : ∀ (f : Nat) (pre : List Int) (b fd : Int), D.length - pre.length = f → pre.length ≤ D.length → Part D A pre → Sp pre w → 0 ≤ b → b ≤ 20000 → 0 ≤ fd → fd ≤ 1000000 - b → (fst = true → fd = 0) →
    DenY Try.prog 57 [aT D A fst w b fd pre] (VsOk D A fst w (vis D A f pre) pre b fd) (fun r => [aT D A fst w r.1 r.2.1 r.2.2]) (fun _ => .tup [])
  | 0, pre, b, fd, hf, hl, hp, hs, h1, h2, h3, h4, _ => deny_assignLeaf h fst w pre b fd (by omega) hp hs h1 h2 h3 h4
  | f + 1, pre, b, fd, hf, hl, hp, hs, h1, h2, h3, h4, h5 => deny_assignStep h fst w hw f (fun pre b fd a1 a2 a3 a4 a5 a6 a7 a8 a9 => deny_assign h fst w hw f pre b fd a1 a2 a3 a4 a5 a6 a7 a8 a9) pre b fd hf hl hp hs h1 h2 h3 h4 h5
end Go.Proofs.Yteempjinbolkaaa
