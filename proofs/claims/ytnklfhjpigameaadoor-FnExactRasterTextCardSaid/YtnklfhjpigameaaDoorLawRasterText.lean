/-
  For every input the law FnExactRasterText returns true and leaves its arguments as they were: no condition.
-/
import Derived.Test.YtnklfhjpigameaaDoorSrC
import Derived.Test.YtnklfhjpigameaaDoorRaE
import Derived.Test.YtnklfhjpigameaaDoorOwnV
import Derived.Test.YtnklfhjpigameaaDoorLawBase
import Derived.Test.YtnklfhjpigameaaDoorCards
import Derived.Test.YtnklfhjpigameaaDoorTie
namespace Go.Proofs.YtnklfhjpigameaaDoor
open Go Go.Own Go.Proofs Go.ChangeShapes Go.WideShapes Go.ChangeAt Go.RowKit
set_option maxHeartbeats 4000000
set_option maxRecDepth 20000
set_option linter.unusedSimpArgs false
set_option linter.unusedVariables false
theorem den_law (s0 w0 h0 : Int) (sv0 lv0 : List Int) (_ : In64 s0 ∧ In64 w0 ∧ In64 h0 ∧ (∀ x ∈ sv0, In64 x) ∧ (∀ x ∈ lv0, In64 x)) : Den Tryd.prog 3 [rasV s0 w0 h0 sv0 lv0] (.b true) := by
  refine den_of_awp Tryd.func3 rfl (by kernel_rfl) (Nat.le_of_ble_eq_true rfl) (by simp only [treeL, AVal.tree, treeL_i, treeL_ints, treeL_u8, treeL_append, Bool.and_self, Bool.and_true, Bool.true_and]) (by first | rfl | simp only [treeL, AVal.tree, treeL_i, treeL_ints, treeL_u8, treeL_append, Bool.and_self, Bool.and_true, Bool.true_and]) mixed (by kernel_rfl) fun hl => ?_
  simp only [lensL, lens, lensL_i, lensL_mapC, maxI, and_true, true_and] at hl
  rw [Tryd.ntmps3]
  refine ex_start ?_
  simp (config := { maxSteps := 1000000 }) +decide only [NoH, Old, OldL, nilQ, nilA, asgn, nz, RechL, ReY, isNew, stepO, XPost, postN, XOk, updN, updU, isEff, avalue, aeff, ASt.eval, ASt.put, ASt.set, ASt.new, Nat.reduceDiv, Nat.reduceAdd, Int.reduceToNat, absV, absC, scalar, alen, acap, conc, flats, live, blkOf, aload, rd, part?, afieldAddr, afield, aindexAddr, cellsOf, afill, places, abuild, optI, asliceV, asliceS, szOk, srcCells, aappend, acopy, astore, amakeSlice, abuildSlice, snapL, mapO, treeL, AVal.tree, AVal.flatT, isFlat, ares, isFz, afroz, afrozB, lookupA, lookupH, tops, if_true, if_false, reduceCtorEq, forall_const, ite_true, ite_false, implies_true, walkS, tabS, Tryd.results3]
  refine callK (den_szRaster s0 w0 h0 sv0 lv0 1048576 (by omega) (by omega)) (by first | exact .inl rfl | exact .inr rfl) ?_
  simp (config := { maxSteps := 1000000 }) +decide only [NoH, Old, OldL, nilQ, nilA, asgn, nz, RechL, ReY, isNew, stepO, XPost, postN, XOk, updN, updU, isEff, avalue, aeff, ASt.eval, ASt.put, ASt.set, ASt.new, Nat.reduceDiv, Nat.reduceAdd, Int.reduceToNat, absV, absC, scalar, alen, acap, conc, flats, live, blkOf, aload, rd, part?, afieldAddr, afield, aindexAddr, cellsOf, afill, places, abuild, optI, asliceV, asliceS, szOk, srcCells, aappend, acopy, astore, amakeSlice, abuildSlice, snapL, mapO, treeL, AVal.tree, AVal.flatT, isFlat, ares, isFz, afroz, afrozB, lookupA, lookupH, tops, if_true, if_false, reduceCtorEq, forall_const, ite_true, ite_false, implies_true, walkS, tabS, Tryd.results3]
  intro z0
  have y0 := z0
  rw [sz_neg] at y0
  have e0 := sz_val y0
  have hb0 : sv0.length ≤ 1000000000000 := by omega
  have hc0 : lv0.length ≤ 1000000000000 := by omega
  have c1 := den_specRasterText s0 w0 h0 sv0 lv0 
  have c2 := den_implRasterText s0 w0 h0 sv0 lv0 
  generalize rT s0 w0 h0 sv0 lv0 = X at c1 c2
  refine callK (den_toRaster s0 w0 h0 sv0 lv0 hb0 hc0) (by first | exact .inl rfl | exact .inr rfl) ?_
  simp (config := { maxSteps := 1000000 }) +decide only [NoH, Old, OldL, nilQ, nilA, asgn, nz, RechL, ReY, isNew, stepO, XPost, postN, XOk, updN, updU, isEff, avalue, aeff, ASt.eval, ASt.put, ASt.set, ASt.new, Nat.reduceDiv, Nat.reduceAdd, Int.reduceToNat, absV, absC, scalar, alen, acap, conc, flats, live, blkOf, aload, rd, part?, afieldAddr, afield, aindexAddr, cellsOf, afill, places, abuild, optI, asliceV, asliceS, szOk, srcCells, aappend, acopy, astore, amakeSlice, abuildSlice, snapL, mapO, treeL, AVal.tree, AVal.flatT, isFlat, ares, isFz, afroz, afrozB, lookupA, lookupH, tops, if_true, if_false, reduceCtorEq, forall_const, ite_true, ite_false, implies_true, walkS, tabS, Tryd.results3]
  refine callK (c1) (by first | exact .inl rfl | exact .inr rfl) ?_
  simp (config := { maxSteps := 1000000 }) +decide only [NoH, Old, OldL, nilQ, nilA, asgn, nz, RechL, ReY, isNew, stepO, XPost, postN, XOk, updN, updU, isEff, avalue, aeff, ASt.eval, ASt.put, ASt.set, ASt.new, Nat.reduceDiv, Nat.reduceAdd, Int.reduceToNat, absV, absC, scalar, alen, acap, conc, flats, live, blkOf, aload, rd, part?, afieldAddr, afield, aindexAddr, cellsOf, afill, places, abuild, optI, asliceV, asliceS, szOk, srcCells, aappend, acopy, astore, amakeSlice, abuildSlice, snapL, mapO, treeL, AVal.tree, AVal.flatT, isFlat, ares, isFz, afroz, afrozB, lookupA, lookupH, tops, if_true, if_false, reduceCtorEq, forall_const, ite_true, ite_false, implies_true, walkS, tabS, Tryd.results3, sem_neqT]
  refine callK (den_toRaster s0 w0 h0 sv0 lv0 hb0 hc0) (by first | exact .inl rfl | exact .inr rfl) ?_
  simp (config := { maxSteps := 1000000 }) +decide only [NoH, Old, OldL, nilQ, nilA, asgn, nz, RechL, ReY, isNew, stepO, XPost, postN, XOk, updN, updU, isEff, avalue, aeff, ASt.eval, ASt.put, ASt.set, ASt.new, Nat.reduceDiv, Nat.reduceAdd, Int.reduceToNat, absV, absC, scalar, alen, acap, conc, flats, live, blkOf, aload, rd, part?, afieldAddr, afield, aindexAddr, cellsOf, afill, places, abuild, optI, asliceV, asliceS, szOk, srcCells, aappend, acopy, astore, amakeSlice, abuildSlice, snapL, mapO, treeL, AVal.tree, AVal.flatT, isFlat, ares, isFz, afroz, afrozB, lookupA, lookupH, tops, if_true, if_false, reduceCtorEq, forall_const, ite_true, ite_false, implies_true, walkS, tabS, Tryd.results3]
  refine callK (c2) (by first | exact .inl rfl | exact .inr rfl) ?_
  simp (config := { maxSteps := 1000000 }) +decide only [NoH, Old, OldL, nilQ, nilA, asgn, nz, RechL, ReY, isNew, stepO, XPost, postN, XOk, updN, updU, isEff, avalue, aeff, ASt.eval, ASt.put, ASt.set, ASt.new, Nat.reduceDiv, Nat.reduceAdd, Int.reduceToNat, absV, absC, scalar, alen, acap, conc, flats, live, blkOf, aload, rd, part?, afieldAddr, afield, aindexAddr, cellsOf, afill, places, abuild, optI, asliceV, asliceS, szOk, srcCells, aappend, acopy, astore, amakeSlice, abuildSlice, snapL, mapO, treeL, AVal.tree, AVal.flatT, isFlat, ares, isFz, afroz, afrozB, lookupA, lookupH, tops, if_true, if_false, reduceCtorEq, forall_const, ite_true, ite_false, implies_true, walkS, tabS, Tryd.results3, sem_neqT]
  refine callK (den_toRaster s0 w0 h0 sv0 lv0 hb0 hc0) (by first | exact .inl rfl | exact .inr rfl) ?_
  simp (config := { maxSteps := 1000000 }) +decide only [NoH, Old, OldL, nilQ, nilA, asgn, nz, RechL, ReY, isNew, stepO, XPost, postN, XOk, updN, updU, isEff, avalue, aeff, ASt.eval, ASt.put, ASt.set, ASt.new, Nat.reduceDiv, Nat.reduceAdd, Int.reduceToNat, absV, absC, scalar, alen, acap, conc, flats, live, blkOf, aload, rd, part?, afieldAddr, afield, aindexAddr, cellsOf, afill, places, abuild, optI, asliceV, asliceS, szOk, srcCells, aappend, acopy, astore, amakeSlice, abuildSlice, snapL, mapO, treeL, AVal.tree, AVal.flatT, isFlat, ares, isFz, afroz, afrozB, lookupA, lookupH, tops, if_true, if_false, reduceCtorEq, forall_const, ite_true, ite_false, implies_true, walkS, tabS, Tryd.results3]
  refine callK (den_eqRaster s0 w0 h0 sv0 lv0 s0 w0 h0 sv0 lv0) (by first | exact .inl rfl | exact .inr rfl) ?_
  simp (config := { maxSteps := 1000000 }) +decide only [NoH, Old, OldL, nilQ, nilA, asgn, nz, RechL, ReY, isNew, stepO, XPost, postN, XOk, updN, updU, isEff, avalue, aeff, ASt.eval, ASt.put, ASt.set, ASt.new, Nat.reduceDiv, Nat.reduceAdd, Int.reduceToNat, absV, absC, scalar, alen, acap, conc, flats, live, blkOf, aload, rd, part?, afieldAddr, afield, aindexAddr, cellsOf, afill, places, abuild, optI, asliceV, asliceS, szOk, srcCells, aappend, acopy, astore, amakeSlice, abuildSlice, snapL, mapO, treeL, AVal.tree, AVal.flatT, isFlat, ares, isFz, afroz, afrozB, lookupA, lookupH, tops, if_true, if_false, reduceCtorEq, forall_const, ite_true, ite_false, implies_true, walkS, tabS, Tryd.results3]
theorem shape_ras : shapeOf Tryd.prog 20 24 = some (.struct 5 (.cons 1 (.int .i64) (.cons 1 (.int .i64) (.cons 1 (.int .i64) (.cons 1 (.slice 1 (.int .i64)) (.cons 1 (.slice 1 (.int .i64)) .nil)))))) := by kernel_rfl
theorem globs_met {W : World} (hsh : W.ShapedOpen Tryd.prog) (h : laidMetH Tryd.prog Rows.fnExactRasterTextRow.laid W) : Globs (tenv W) := by
  rw [MakeChecks.laidMetH_plain _ _ _ (by kernel_rfl)] at h
  obtain ⟨ps, h0, _, _⟩ := h
  obtain ⟨g0, t0, cs0, f0, p0, q0, a0, b0, c0, d0, h1, _⟩ := h0
  obtain ⟨g1, t1, cs1, f1, p1, q1, a1, b1, c1, d1, h2, _⟩ := h1
  obtain ⟨g2, t2, cs2, f2, p2, q2, a2, b2, c2, d2, h3, _⟩ := h2
  intro x hx
  simp only [globPins, GL.tab, GL.ex, GL.shp, List.map_cons, List.map_nil, List.cons_append, List.nil_append, List.append_nil, List.mem_cons, List.not_mem_nil, or_false] at hx
  rcases hx with rfl | rfl | rfl | rfl | rfl | rfl | rfl
  · exact tab_rep (k := .u64) (L := tab_uint64pow10) (show Tryd.prog.globalNamed "internal/strconv.uint64pow10" = some 0 by kernel_rfl) (show (Tryd.prog.globals[0]?).map (·.type) = some 68 by kernel_rfl) Tryd.underlying68 Tryd.underlying60 (by kernel_rfl) ⟨g2, t2, cs2, f2, p2, a2, b2, c2, d2⟩
  · exact tab_rep (k := .u8) (L := tab_deBruijn32tab) (show Tryd.prog.globalNamed "math/bits.deBruijn32tab" = some 2 by kernel_rfl) (show (Tryd.prog.globals[2]?).map (·.type) = some 78 by kernel_rfl) Tryd.underlying78 Tryd.underlying5 (by kernel_rfl) ⟨g0, t0, cs0, f0, p0, a0, b0, c0, d0⟩
  · exact tab_rep (k := .u8) (L := tab_deBruijn64tab) (show Tryd.prog.globalNamed "math/bits.deBruijn64tab" = some 3 by kernel_rfl) (show (Tryd.prog.globals[3]?).map (·.type) = some 79 by kernel_rfl) Tryd.underlying79 Tryd.underlying5 (by kernel_rfl) ⟨g1, t1, cs1, f1, p1, a1, b1, c1, d1⟩
  · exact tab_row (k := .u64) (L := tab_uint64pow10) (show Tryd.prog.globalNamed "internal/strconv.uint64pow10" = some 0 by kernel_rfl) (show (Tryd.prog.globals[0]?).map (·.type) = some 68 by kernel_rfl) Tryd.underlying68 Tryd.underlying60 (by kernel_rfl) (by kernel_rfl) ⟨g2, t2, cs2, f2, p2, a2, b2, c2, d2⟩
  · exact tab_row (k := .u8) (L := tab_deBruijn32tab) (show Tryd.prog.globalNamed "math/bits.deBruijn32tab" = some 2 by kernel_rfl) (show (Tryd.prog.globals[2]?).map (·.type) = some 78 by kernel_rfl) Tryd.underlying78 Tryd.underlying5 (by kernel_rfl) (by kernel_rfl) ⟨g0, t0, cs0, f0, p0, a0, b0, c0, d0⟩
  · exact tab_row (k := .u8) (L := tab_deBruijn64tab) (show Tryd.prog.globalNamed "math/bits.deBruijn64tab" = some 3 by kernel_rfl) (show (Tryd.prog.globals[3]?).map (·.type) = some 79 by kernel_rfl) Tryd.underlying79 Tryd.underlying5 (by kernel_rfl) (by kernel_rfl) ⟨g1, t1, cs1, f1, p1, a1, b1, c1, d1⟩
  · exact shp_rep (cell_of_shapedOpen_int (t := 3) (zero := #[.int .i64 0]) hsh (of_decide_eq_true (by kernel_rfl)) (by kernel_rfl) rfl (by kernel_rfl) (by kernel_rfl) Tryd.underlying3)
theorem door_met (os : Os) (args : Array Value) : laidMetH Tryd.prog Rows.fnExactRasterTextRow.laid ((World.doorLaid Tryd.prog 400 os).forCall (fun _ _ => 0) ⟨#[], args, []⟩).memory :=
  laidMetH_of_parts3 (fuel := 8) (laidMet_of_run' 8 (by kernel_rfl) (by kernel_rfl)) (by kernel_rfl) (by kernel_rfl)
set_option maxRecDepth 100000 in
theorem law_lifted (os : Os) (started : os.Started) (H : Type) (enc : TypeId × Value → H) :
    ReturnsInHanded {} Tryd.checked os 3 .any (fun w args => (Rows.fnExactRasterTextSpec.pre enc Tryd.prog Tryd.f3 [] false w args ∧ laidMetH Tryd.prog Rows.fnExactRasterTextRow.laid w) ∧ sizedMet enc Tryd.prog Tryd.f3 (OpenSpec.ofChange Rows.fnExactRasterTextSpec) false w args)
      (Rows.fnExactRasterTextSpec.post enc Tryd.prog Tryd.f3 false true false false) := by
  refine handed_shaped (C := Tryd.checked) (X := fun w _ => laidMetH Tryd.prog Rows.fnExactRasterTextRow.laid w) (fun _ _ _ hh h => h.of_heap hh) ownK started (by kernel_rfl) Tryd.func3
    (ChangeSpec.witness_shaped (enc := enc) (C := Tryd.checked) (os := os) (X := fun w _ => laidMetH Tryd.prog Rows.fnExactRasterTextRow.laid w) false (World.doorLaid Tryd.prog 400 os) #[.agg #[.int .i64 0, .int .i64 0, .int .i64 0, .slice none 0 0, .slice none 0 0]] 8 rfl (World.shaped_of_RefB (by kernel_rfl) (by kernel_rfl)) (by kernel_rfl) (by kernel_rfl) (by kernel_rfl) (door_met os _)) ?_
  intro W base args ds gs before hval hW hL hsh
  have e : Tryd.f3.params.toList = [24] := by kernel_rfl
  refine law_callsV (C := Tryd.prog) (tb := 4) laidOut (by kernel_rfl) rfl (by kernel_rfl) ?_ ?_ hval hW (globs_met hsh hL) ?_
  · intro t ht
    rw [e] at ht
    simp only [List.mem_cons, List.mem_nil_iff, or_false] at ht
    subst ht
    exact ⟨by kernel_rfl, of_decide_eq_true (by kernel_rfl), by rw [shape_ras]; rfl⟩
  · intro ds gs hds hgs
    match ds, hds, gs, hgs with
    | [_d0], _, [], _ => exact ⟨rfl, rfl, rfl⟩
  · intro asl has
    rw [e] at has
    obtain ⟨a0, r0, σ0, rfl, hs0, hv0, rfl⟩ := has
    rw [shape_ras] at hs0
    simp only [Option.some.injEq] at hs0
    subst hs0
    obtain ⟨s0, w0, h0, sv0, lv0, rfl, hy0⟩ := has_rasV hv0
    exact den_law s0 w0 h0 sv0 lv0 hy0
theorem law_holds : Rows.FnExactRasterTextSaid :=
  OpenClaim.holds_of_wide 3 Tryd.f3 rfl rfl rfl rfl rfl rfl rfl ⟨rfl, rfl, rfl, rfl, rfl⟩ rfl rfl rfl rfl rfl (by kernel_rfl) Tryd.func3 (by kernel_rfl)
    (of_decide_eq_true (by kernel_rfl)) (by unfold Func.isWrapper; first | (rw [if_pos (by decide +kernel)]; kernel_rfl) | (rw [if_neg (by decide +kernel)]; exact ⟨rfl, rfl⟩))
    (fun os started H enc _ => law_lifted os started H enc)
theorem card_holds : Rows.FnExactRasterTextCardSaid :=
  Claim7.holds_tied_plain_at .later [] [.data, .data, .data] true (true, "278994db9230c8be707cc734276127949b3da9694230af77243641357a80ba16") false
    law_holds (fun _ h => by cases h) (by kernel_rfl) (fun _ h => by cases h) fnExactRasterText_row_tie rfl ⟨rfl, rfl⟩ (by kernel_rfl) rfl
    (fun f fn hf hfn => by
      obtain rfl : f = 3 := Option.some.inj ((show Tryd.prog.funcNamed "loop.example/g00925/laws.FnExactRasterText" = some 3 by kernel_rfl).symm.trans hf) |>.symm
      obtain rfl : fn = Tryd.f3 := (Option.some.inj (Tryd.func3.symm.trans hfn)).symm
      refine ⟨by kernel_rfl, fun j t ht => ?_⟩
      have hmem : t ∈ Tryd.f3.params.toList := by
        have := Array.mem_of_getElem? ht
        simpa using this
      rw [show Tryd.f3.params.toList = [24] by kernel_rfl] at hmem
      simp only [List.mem_cons, List.mem_nil_iff, or_false] at hmem
      subst hmem; exact (show Tryd.prog.wantsStandIn 24 = false by kernel_rfl))
    (by kernel_rfl)
end Go.Proofs.YtnklfhjpigameaaDoor
