/-
  OWN WORK: contracts of shares, people and changes of rasters.
-/
import Derived.Test.YtdbongnhdlbplaaRaD
namespace Go.Proofs.Ytdbongnhdlbplaa
open Go Go.Own Go.Proofs
set_option maxHeartbeats 4000000
set_option maxRecDepth 20000
set_option linter.unusedSimpArgs false
theorem ok_pos {s w h : Int} {sv lv : List Int} (h1 : OkRas s w h sv lv) : (sv.length : Int) ≠ 0 ∧ sv.length ≤ 576 := by
  have h2 := h1.2.1
  have h3 := size_bound h1.1
  have h4 : 2 * 2 ≤ w * h := Int.mul_le_mul (by have := h1.1.2.1; omega) (by have := h1.1.2.2.1; omega) (by omega) (by have := h1.1.2.1; omega)
  omega
noncomputable def shareV (s w h : Int) (sv lv : List Int) : AVal := if bp (OkRas s w h sv lv) then .tup [.i (IntKind.i64.wrap ((IntKind.i64.wrap ((cov sv).length * 1000000)).tdiv sv.length)), .i 0] else .tup [.i 0, .i 1]
theorem shareV_yes {s w h : Int} {sv lv : List Int} (h1 : OkRas s w h sv lv) : shareV s w h sv lv = .tup [.i (IntKind.i64.wrap ((IntKind.i64.wrap ((cov sv).length * 1000000)).tdiv sv.length)), .i 0] := if_pos (by rw [bp_true]; exact h1)
theorem shareV_no {s w h : Int} {sv lv : List Int} (h1 : ¬ OkRas s w h sv lv) : shareV s w h sv lv = .tup [.i 0, .i 1] := if_neg (by rw [bp_true]; exact h1)
theorem tree_ite {b : Bool} {x y : AVal} (h1 : x.tree = true) (h2 : y.tree = true) : (if b then x else y).tree = true := by cases b <;> assumption
theorem tree_shareV (s w h : Int) (sv lv : List Int) : (shareV s w h sv lv).tree = true := tree_ite rfl rfl
theorem den_specCoveredShare (s w h : Int) (sv lv : List Int) : Den Try.prog 21 [rasV s w h sv lv] (shareV s w h sv lv) := by
  refine den_of_awp Try.func21 rfl (by kernel_rfl) (Nat.le_of_ble_eq_true rfl) (by simp only [treeL, AVal.tree, treeL_i, treeL_ints, treeL_append, Bool.and_self, Bool.and_true, Bool.true_and, tree_shareV]) (by first | rfl | simp only [treeL, AVal.tree, treeL_i, treeL_ints, treeL_append, Bool.and_self, Bool.and_true, Bool.true_and, tree_shareV]) mixed (by kernel_rfl) fun hl => ?_
  simp only [lensL, lens, lensL_i, lensL_mapC, maxI, and_true, true_and] at hl
  rw [Try.ntmps21]
  refine ex_start ?_
  by_cases h1 : OkRas s w h sv lv
  · rw [shareV_yes h1]
    have hp := (ok_pos h1).1
    simp (config := {decide := true, maxSteps := 1000000}) only [nilQ, nilA, RechL, ReY, isNew, stepO, XPost, postN, XOk, updN, updU, isEff, avalue, aeff, ASt.eval, ASt.put, ASt.set, ASt.new, Nat.reduceDiv, Nat.reduceAdd, Int.reduceToNat, absV, absC, scalar, alen, acap, conc, flats, live, blkOf, aload, rd, part?, afieldAddr, afield, aindexAddr, cellsOf, afill, places, abuild, optI, asliceV, asliceS, szOk, srcCells, aappend, astore, amakeSlice, abuildSlice, snapL, mapO, treeL, AVal.tree, AVal.flatT, isFlat, ares, lookupA, lookupH, tops, if_true, if_false, reduceCtorEq, forall_const, ite_true, ite_false, implies_true, walkS, tabS, Try.results21]
    refine callK (den_l20Ok s w h sv lv) (by first | exact .inl rfl | exact .inr rfl) ?_
    simp (config := {decide := true, maxSteps := 1000000}) only [nilQ, nilA, RechL, ReY, isNew, stepO, XPost, postN, XOk, updN, updU, isEff, avalue, aeff, ASt.eval, ASt.put, ASt.set, ASt.new, Nat.reduceDiv, Nat.reduceAdd, Int.reduceToNat, absV, absC, scalar, alen, acap, conc, flats, live, blkOf, aload, rd, part?, afieldAddr, afield, aindexAddr, cellsOf, afill, places, abuild, optI, asliceV, asliceS, szOk, srcCells, aappend, astore, amakeSlice, abuildSlice, snapL, mapO, treeL, AVal.tree, AVal.flatT, isFlat, ares, lookupA, lookupH, tops, if_true, if_false, reduceCtorEq, forall_const, ite_true, ite_false, implies_true, walkS, tabS, Try.results21, h1]
    refine callK (den_l21Covered s w h sv lv) (by first | exact .inl rfl | exact .inr rfl) ?_
    simp (config := {decide := true, maxSteps := 1000000}) only [nilQ, nilA, RechL, ReY, isNew, stepO, XPost, postN, XOk, updN, updU, isEff, avalue, aeff, ASt.eval, ASt.put, ASt.set, ASt.new, Nat.reduceDiv, Nat.reduceAdd, Int.reduceToNat, absV, absC, scalar, alen, acap, conc, flats, live, blkOf, aload, rd, part?, afieldAddr, afield, aindexAddr, cellsOf, afill, places, abuild, optI, asliceV, asliceS, szOk, srcCells, aappend, astore, amakeSlice, abuildSlice, snapL, mapO, treeL, AVal.tree, AVal.flatT, isFlat, ares, lookupA, lookupH, tops, if_true, if_false, reduceCtorEq, forall_const, ite_true, ite_false, implies_true, walkS, tabS, Try.results21, hp, sem_quo]
  · rw [shareV_no h1]
    simp (config := {decide := true, maxSteps := 1000000}) only [nilQ, nilA, RechL, ReY, isNew, stepO, XPost, postN, XOk, updN, updU, isEff, avalue, aeff, ASt.eval, ASt.put, ASt.set, ASt.new, Nat.reduceDiv, Nat.reduceAdd, Int.reduceToNat, absV, absC, scalar, alen, acap, conc, flats, live, blkOf, aload, rd, part?, afieldAddr, afield, aindexAddr, cellsOf, afill, places, abuild, optI, asliceV, asliceS, szOk, srcCells, aappend, astore, amakeSlice, abuildSlice, snapL, mapO, treeL, AVal.tree, AVal.flatT, isFlat, ares, lookupA, lookupH, tops, if_true, if_false, reduceCtorEq, forall_const, ite_true, ite_false, implies_true, walkS, tabS, Try.results21]
    refine callK (den_l20Ok s w h sv lv) (by first | exact .inl rfl | exact .inr rfl) ?_
    simp (config := {decide := true, maxSteps := 1000000}) only [nilQ, nilA, RechL, ReY, isNew, stepO, XPost, postN, XOk, updN, updU, isEff, avalue, aeff, ASt.eval, ASt.put, ASt.set, ASt.new, Nat.reduceDiv, Nat.reduceAdd, Int.reduceToNat, absV, absC, scalar, alen, acap, conc, flats, live, blkOf, aload, rd, part?, afieldAddr, afield, aindexAddr, cellsOf, afill, places, abuild, optI, asliceV, asliceS, szOk, srcCells, aappend, astore, amakeSlice, abuildSlice, snapL, mapO, treeL, AVal.tree, AVal.flatT, isFlat, ares, lookupA, lookupH, tops, if_true, if_false, reduceCtorEq, forall_const, ite_true, ite_false, implies_true, walkS, tabS, Try.results21, h1]
theorem den_implCoveredShare (s w h : Int) (sv lv : List Int) (hb : sv.length ≤ 1000000000000) : Den Try.prog 22 [rasV s w h sv lv] (shareV s w h sv lv) := by
  refine den_of_awp Try.func22 rfl (by kernel_rfl) (Nat.le_of_ble_eq_true rfl) (by simp only [treeL, AVal.tree, treeL_i, treeL_ints, treeL_append, Bool.and_self, Bool.and_true, Bool.true_and, tree_shareV]) (by first | rfl | simp only [treeL, AVal.tree, treeL_i, treeL_ints, treeL_append, Bool.and_self, Bool.and_true, Bool.true_and, tree_shareV]) mixed (by kernel_rfl) fun hl => ?_
  simp only [lensL, lens, lensL_i, lensL_mapC, maxI, and_true, true_and] at hl
  rw [Try.ntmps22]
  refine ex_start ?_
  by_cases h1 : OkRas s w h sv lv
  · rw [shareV_yes h1]
    have hp := (ok_pos h1).1
    simp (config := {decide := true, maxSteps := 1000000}) only [nilQ, nilA, RechL, ReY, isNew, stepO, XPost, postN, XOk, updN, updU, isEff, avalue, aeff, ASt.eval, ASt.put, ASt.set, ASt.new, Nat.reduceDiv, Nat.reduceAdd, Int.reduceToNat, absV, absC, scalar, alen, acap, conc, flats, live, blkOf, aload, rd, part?, afieldAddr, afield, aindexAddr, cellsOf, afill, places, abuild, optI, asliceV, asliceS, szOk, srcCells, aappend, astore, amakeSlice, abuildSlice, snapL, mapO, treeL, AVal.tree, AVal.flatT, isFlat, ares, lookupA, lookupH, tops, if_true, if_false, reduceCtorEq, forall_const, ite_true, ite_false, implies_true, walkS, tabS, Try.results22]
    refine callK (den_ValidRaster s w h sv lv) (by first | exact .inl rfl | exact .inr rfl) ?_
    simp (config := {decide := true, maxSteps := 1000000}) only [nilQ, nilA, RechL, ReY, isNew, stepO, XPost, postN, XOk, updN, updU, isEff, avalue, aeff, ASt.eval, ASt.put, ASt.set, ASt.new, Nat.reduceDiv, Nat.reduceAdd, Int.reduceToNat, absV, absC, scalar, alen, acap, conc, flats, live, blkOf, aload, rd, part?, afieldAddr, afield, aindexAddr, cellsOf, afill, places, abuild, optI, asliceV, asliceS, szOk, srcCells, aappend, astore, amakeSlice, abuildSlice, snapL, mapO, treeL, AVal.tree, AVal.flatT, isFlat, ares, lookupA, lookupH, tops, if_true, if_false, reduceCtorEq, forall_const, ite_true, ite_false, implies_true, walkS, tabS, Try.results22, h1]
    refine callK (den_implCoveredCells s w h sv lv hb) (by first | exact .inl rfl | exact .inr rfl) ?_
    simp (config := {decide := true, maxSteps := 1000000}) only [nilQ, nilA, RechL, ReY, isNew, stepO, XPost, postN, XOk, updN, updU, isEff, avalue, aeff, ASt.eval, ASt.put, ASt.set, ASt.new, Nat.reduceDiv, Nat.reduceAdd, Int.reduceToNat, absV, absC, scalar, alen, acap, conc, flats, live, blkOf, aload, rd, part?, afieldAddr, afield, aindexAddr, cellsOf, afill, places, abuild, optI, asliceV, asliceS, szOk, srcCells, aappend, astore, amakeSlice, abuildSlice, snapL, mapO, treeL, AVal.tree, AVal.flatT, isFlat, ares, lookupA, lookupH, tops, if_true, if_false, reduceCtorEq, forall_const, ite_true, ite_false, implies_true, walkS, tabS, Try.results22, hp, sem_quo, covN_yes h1]
  · rw [shareV_no h1]
    simp (config := {decide := true, maxSteps := 1000000}) only [nilQ, nilA, RechL, ReY, isNew, stepO, XPost, postN, XOk, updN, updU, isEff, avalue, aeff, ASt.eval, ASt.put, ASt.set, ASt.new, Nat.reduceDiv, Nat.reduceAdd, Int.reduceToNat, absV, absC, scalar, alen, acap, conc, flats, live, blkOf, aload, rd, part?, afieldAddr, afield, aindexAddr, cellsOf, afill, places, abuild, optI, asliceV, asliceS, szOk, srcCells, aappend, astore, amakeSlice, abuildSlice, snapL, mapO, treeL, AVal.tree, AVal.flatT, isFlat, ares, lookupA, lookupH, tops, if_true, if_false, reduceCtorEq, forall_const, ite_true, ite_false, implies_true, walkS, tabS, Try.results22]
    refine callK (den_ValidRaster s w h sv lv) (by first | exact .inl rfl | exact .inr rfl) ?_
    simp (config := {decide := true, maxSteps := 1000000}) only [nilQ, nilA, RechL, ReY, isNew, stepO, XPost, postN, XOk, updN, updU, isEff, avalue, aeff, ASt.eval, ASt.put, ASt.set, ASt.new, Nat.reduceDiv, Nat.reduceAdd, Int.reduceToNat, absV, absC, scalar, alen, acap, conc, flats, live, blkOf, aload, rd, part?, afieldAddr, afield, aindexAddr, cellsOf, afill, places, abuild, optI, asliceV, asliceS, szOk, srcCells, aappend, astore, amakeSlice, abuildSlice, snapL, mapO, treeL, AVal.tree, AVal.flatT, isFlat, ares, lookupA, lookupH, tops, if_true, if_false, reduceCtorEq, forall_const, ite_true, ite_false, implies_true, walkS, tabS, Try.results22, h1]
theorem covK_mem (sv : List Int) : ∀ (k : Nat) (c : Int), c ∈ covK sv k → ∃ n : Nat, c = n ∧ n < k ∧ 0 ≤ sv.getD n (-1)
  | 0, c, h => by simp [covK] at h
  | k + 1, c, h => by
    unfold covK at h
    split at h
    · rename_i h0
      rcases List.mem_append.1 h with h | h
      · obtain ⟨n, e, h1, h2⟩ := covK_mem sv k c h
        exact ⟨n, e, by omega, h2⟩
      · exact ⟨k, by simpa using h, by omega, h0⟩
    · obtain ⟨n, e, h1, h2⟩ := covK_mem sv k c h
      exact ⟨n, e, by omega, h2⟩
theorem cov_get {sv : List Int} {j : Nat} (h : j < (cov sv).length) : ∃ n : Nat, (cov sv)[j] = n ∧ n < sv.length := by
  obtain ⟨n, e, h1, _⟩ := covK_mem sv sv.length _ (List.getElem_mem h)
  exact ⟨n, e, h1⟩
def PeoOk (sv ws : List Int) : Prop := ws.length = sv.length ∧ ∀ x ∈ ws, 0 ≤ x ∧ x ≤ 1000000
noncomputable def peoV (s w h : Int) (sv lv ws : List Int) : AVal := if bp (OkRas s w h sv lv) then (if bp (PeoOk sv ws) then .tup [.i (sumAt ws (cov sv)), .i 0] else .tup [.i 0, .i 6]) else .tup [.i 0, .i 1]
theorem peoV_yes {s w h : Int} {sv lv ws : List Int} (h1 : OkRas s w h sv lv) (h2 : PeoOk sv ws) : peoV s w h sv lv ws = .tup [.i (sumAt ws (cov sv)), .i 0] := by
  unfold peoV; rw [if_pos (by rw [bp_true]; exact h1), if_pos (by rw [bp_true]; exact h2)]
theorem peoV_bad {s w h : Int} {sv lv ws : List Int} (h1 : OkRas s w h sv lv) (h2 : ¬ PeoOk sv ws) : peoV s w h sv lv ws = .tup [.i 0, .i 6] := by
  unfold peoV; rw [if_pos (by rw [bp_true]; exact h1), if_neg (by rw [bp_true]; exact h2)]
theorem peoV_no {s w h : Int} {sv lv ws : List Int} (h1 : ¬ OkRas s w h sv lv) : peoV s w h sv lv ws = .tup [.i 0, .i 1] := by
  unfold peoV; rw [if_neg (by rw [bp_true]; exact h1)]
theorem tree_peoV (s w h : Int) (sv lv ws : List Int) : (peoV s w h sv lv ws).tree = true := tree_ite (tree_ite rfl rfl) rfl
theorem den_specCoveredPeople (s w h : Int) (sv lv ws : List Int) : Den Try.prog 23 [rasV s w h sv lv, ints ws] (peoV s w h sv lv ws) := by
  refine den_of_awp Try.func23 rfl (by kernel_rfl) (Nat.le_of_ble_eq_true rfl) (by simp only [treeL, AVal.tree, treeL_i, treeL_ints, treeL_append, Bool.and_self, Bool.and_true, Bool.true_and, tree_peoV]) (by first | rfl | simp only [treeL, AVal.tree, treeL_i, treeL_ints, treeL_append, Bool.and_self, Bool.and_true, Bool.true_and, tree_peoV]) mixed (by kernel_rfl) fun hl => ?_
  simp only [lensL, lens, lensL_i, lensL_mapC, maxI, and_true, true_and] at hl
  rw [Try.ntmps23]
  refine ex_start ?_
  by_cases h1 : OkRas s w h sv lv
  · simp (config := {decide := true, maxSteps := 1000000}) only [nilQ, nilA, RechL, ReY, isNew, stepO, XPost, postN, XOk, updN, updU, isEff, avalue, aeff, ASt.eval, ASt.put, ASt.set, ASt.new, Nat.reduceDiv, Nat.reduceAdd, Int.reduceToNat, absV, absC, scalar, alen, acap, conc, flats, live, blkOf, aload, rd, part?, afieldAddr, afield, aindexAddr, cellsOf, afill, places, abuild, optI, asliceV, asliceS, szOk, srcCells, aappend, astore, amakeSlice, abuildSlice, snapL, mapO, treeL, AVal.tree, AVal.flatT, isFlat, ares, lookupA, lookupH, tops, if_true, if_false, reduceCtorEq, forall_const, ite_true, ite_false, implies_true, walkS, tabS, Try.results23]
    refine callK (den_l20Ok s w h sv lv) (by first | exact .inl rfl | exact .inr rfl) ?_
    simp (config := {decide := true, maxSteps := 1000000}) only [nilQ, nilA, RechL, ReY, isNew, stepO, XPost, postN, XOk, updN, updU, isEff, avalue, aeff, ASt.eval, ASt.put, ASt.set, ASt.new, Nat.reduceDiv, Nat.reduceAdd, Int.reduceToNat, absV, absC, scalar, alen, acap, conc, flats, live, blkOf, aload, rd, part?, afieldAddr, afield, aindexAddr, cellsOf, afill, places, abuild, optI, asliceV, asliceS, szOk, srcCells, aappend, astore, amakeSlice, abuildSlice, snapL, mapO, treeL, AVal.tree, AVal.flatT, isFlat, ares, lookupA, lookupH, tops, if_true, if_false, reduceCtorEq, forall_const, ite_true, ite_false, implies_true, walkS, tabS, Try.results23, h1]
    refine ⟨fun h2 => (peoV_bad h1 fun h => h2 h.1).symm, fun h2 => ?_⟩
    refine ex_loop (fun k : {k : Nat // k ≤ ws.length ∧ ∀ i (h : i < ws.length), i < k → 0 ≤ ws[i] ∧ ws[i] ≤ 1000000} => mk [(1, ints ws), (2, .ptr 2 0 0), (6, .i (sumAt ws (covK sv k))), (7, .i k)] [(2, ⟨0, 5, [.i s, .i w, .i h, ints sv, ints lv]⟩)] 1 41) (fun k => ws.length - k) ⟨0, by simp⟩ ?_ ?_
    · refine weak_mk rfl (by first | exact Nat.le_refl _ | (simp only [mk_gen]; omega)) ?_ ?_ <;> simp (config := {decide := true}) only [w_lookup_nil, w_lookup_cons, ch_ch, ch_lit, lit_ch, wkT, wkH, wkB, WVL, WV_refl', Int.natCast_zero, Int.natCast_add, Int.natCast_one, Nat.sub_self, Nat.sub_zero, List.replicate_zero, List.take_zero, List.nil_append, List.append_nil, fillC_zero, Nat.reduceDiv, Nat.reduceAdd, upd_bk, bk_at, getB_zero, getB_succ, modB_zero, modB_succ, rows_lit, repB_zero, repB_succ, List.length_cons, List.length_nil, upd_upd_same, upd_apply, mk_tmp, mk_heap, mk_gen, lookupA, lookupH, List.getD_cons_zero, List.getD_cons_succ, init_two, tops, Bool.true_and, and_self, and_true, true_and, true_or, if_true, if_false, ite_true, ite_false, reduceCtorEq, reduceIte, covK, sumAt, List.foldl_nil]
    · rintro ⟨k, hk, hkk⟩
      by_cases hlt : k < ws.length
      · have hlt' : k < sv.length := by omega
        have hw : IntKind.i64.wrap ((k : Int) + 1) = ((k + 1 : Nat) : Int) := wrap64 (by omega) (by omega)
        simp (config := {decide := true, maxSteps := 1000000}) only [nilQ, nilA, RechL, ReY, isNew, stepO, XPost, postN, XOk, updN, updU, isEff, avalue, aeff, ASt.eval, ASt.put, ASt.set, ASt.new, Nat.reduceDiv, Nat.reduceAdd, Int.reduceToNat, absV, absC, scalar, alen, acap, conc, flats, live, blkOf, aload, rd, part?, afieldAddr, afield, aindexAddr, cellsOf, afill, places, abuild, optI, asliceV, asliceS, szOk, srcCells, aappend, astore, amakeSlice, abuildSlice, snapL, mapO, treeL, AVal.tree, AVal.flatT, isFlat, ares, lookupA, lookupH, tops, if_true, if_false, reduceCtorEq, forall_const, ite_true, ite_false, implies_true, walkS, tabS, Try.results23, hw, hlt, hlt']
        refine callK (den_l00In _ _ _) (by first | exact .inl rfl | exact .inr rfl) ?_
        simp (config := {decide := true, maxSteps := 1000000}) only [nilQ, nilA, RechL, ReY, isNew, stepO, XPost, postN, XOk, updN, updU, isEff, avalue, aeff, ASt.eval, ASt.put, ASt.set, ASt.new, Nat.reduceDiv, Nat.reduceAdd, Int.reduceToNat, absV, absC, scalar, alen, acap, conc, flats, live, blkOf, aload, rd, part?, afieldAddr, afield, aindexAddr, cellsOf, afill, places, abuild, optI, asliceV, asliceS, szOk, srcCells, aappend, astore, amakeSlice, abuildSlice, snapL, mapO, treeL, AVal.tree, AVal.flatT, isFlat, ares, lookupA, lookupH, tops, if_true, if_false, reduceCtorEq, forall_const, ite_true, ite_false, implies_true, walkS, tabS, Try.results23, hw, hlt, hlt']
        refine ⟨fun h4 => (peoV_bad h1 fun h => h4 (h.2 _ (List.getElem_mem hlt))).symm, fun h4 => ⟨fun h5 => ⟨⟨k + 1, hlt, ?_⟩, ?_, ?_⟩, fun h5 => ⟨⟨k + 1, hlt, ?_⟩, ?_, ?_⟩⟩⟩
        · intro i hi hik
          by_cases e : i = k
          · subst e; exact h4
          · exact hkk i hi (by omega)
        · refine weak_mk rfl (by first | exact Nat.le_refl _ | (simp only [mk_gen]; omega)) ?_ ?_ <;> simp (config := {decide := true}) only [w_lookup_nil, w_lookup_cons, ch_ch, ch_lit, lit_ch, wkT, wkH, wkB, WVL, WV_refl', Int.natCast_zero, Int.natCast_add, Int.natCast_one, Nat.sub_self, Nat.sub_zero, List.replicate_zero, List.take_zero, List.nil_append, List.append_nil, fillC_zero, Nat.reduceDiv, Nat.reduceAdd, upd_bk, bk_at, getB_zero, getB_succ, modB_zero, modB_succ, rows_lit, repB_zero, repB_succ, List.length_cons, List.length_nil, upd_upd_same, upd_apply, mk_tmp, mk_heap, mk_gen, lookupA, lookupH, List.getD_cons_zero, List.getD_cons_succ, init_two, tops, Bool.true_and, and_self, and_true, true_and, true_or, if_true, if_false, ite_true, ite_false, reduceCtorEq, reduceIte, covK_yes hlt' h5, sumAt_snoc, Int.toNat_natCast, getD_lt hlt]
        · show _ - (k + 1) < _ - k
          omega
        · intro i hi hik
          by_cases e : i = k
          · subst e; exact h4
          · exact hkk i hi (by omega)
        · refine weak_mk rfl (by first | exact Nat.le_refl _ | (simp only [mk_gen]; omega)) ?_ ?_ <;> simp (config := {decide := true}) only [w_lookup_nil, w_lookup_cons, ch_ch, ch_lit, lit_ch, wkT, wkH, wkB, WVL, WV_refl', Int.natCast_zero, Int.natCast_add, Int.natCast_one, Nat.sub_self, Nat.sub_zero, List.replicate_zero, List.take_zero, List.nil_append, List.append_nil, fillC_zero, Nat.reduceDiv, Nat.reduceAdd, upd_bk, bk_at, getB_zero, getB_succ, modB_zero, modB_succ, rows_lit, repB_zero, repB_succ, List.length_cons, List.length_nil, upd_upd_same, upd_apply, mk_tmp, mk_heap, mk_gen, lookupA, lookupH, List.getD_cons_zero, List.getD_cons_succ, init_two, tops, Bool.true_and, and_self, and_true, true_and, true_or, if_true, if_false, ite_true, ite_false, reduceCtorEq, reduceIte, covK_no hlt' h5]
        · show _ - (k + 1) < _ - k
          omega
      · have e : k = sv.length := by omega
        subst e
        have h2' : ws.length = sv.length := by omega
        have hok : PeoOk sv ws := ⟨h2', fun x hx => by obtain ⟨i, hi, rfl⟩ := List.getElem_of_mem hx; exact hkk i hi (by omega)⟩
        simp (config := {decide := true, maxSteps := 1000000}) only [nilQ, nilA, RechL, ReY, isNew, stepO, XPost, postN, XOk, updN, updU, isEff, avalue, aeff, ASt.eval, ASt.put, ASt.set, ASt.new, Nat.reduceDiv, Nat.reduceAdd, Int.reduceToNat, absV, absC, scalar, alen, acap, conc, flats, live, blkOf, aload, rd, part?, afieldAddr, afield, aindexAddr, cellsOf, afill, places, abuild, optI, asliceV, asliceS, szOk, srcCells, aappend, astore, amakeSlice, abuildSlice, snapL, mapO, treeL, AVal.tree, AVal.flatT, isFlat, ares, lookupA, lookupH, tops, if_true, if_false, reduceCtorEq, forall_const, ite_true, ite_false, implies_true, walkS, tabS, Try.results23, hlt, peoV_yes h1 hok, cov]
  · rw [peoV_no h1]
    simp (config := {decide := true, maxSteps := 1000000}) only [nilQ, nilA, RechL, ReY, isNew, stepO, XPost, postN, XOk, updN, updU, isEff, avalue, aeff, ASt.eval, ASt.put, ASt.set, ASt.new, Nat.reduceDiv, Nat.reduceAdd, Int.reduceToNat, absV, absC, scalar, alen, acap, conc, flats, live, blkOf, aload, rd, part?, afieldAddr, afield, aindexAddr, cellsOf, afill, places, abuild, optI, asliceV, asliceS, szOk, srcCells, aappend, astore, amakeSlice, abuildSlice, snapL, mapO, treeL, AVal.tree, AVal.flatT, isFlat, ares, lookupA, lookupH, tops, if_true, if_false, reduceCtorEq, forall_const, ite_true, ite_false, implies_true, walkS, tabS, Try.results23]
    refine callK (den_l20Ok s w h sv lv) (by first | exact .inl rfl | exact .inr rfl) ?_
    simp (config := {decide := true, maxSteps := 1000000}) only [nilQ, nilA, RechL, ReY, isNew, stepO, XPost, postN, XOk, updN, updU, isEff, avalue, aeff, ASt.eval, ASt.put, ASt.set, ASt.new, Nat.reduceDiv, Nat.reduceAdd, Int.reduceToNat, absV, absC, scalar, alen, acap, conc, flats, live, blkOf, aload, rd, part?, afieldAddr, afield, aindexAddr, cellsOf, afill, places, abuild, optI, asliceV, asliceS, szOk, srcCells, aappend, astore, amakeSlice, abuildSlice, snapL, mapO, treeL, AVal.tree, AVal.flatT, isFlat, ares, lookupA, lookupH, tops, if_true, if_false, reduceCtorEq, forall_const, ite_true, ite_false, implies_true, walkS, tabS, Try.results23, h1]
theorem den_implCoveredPeople (s w h : Int) (sv lv ws : List Int) (hb : sv.length ≤ 1000000000000) : Den Try.prog 25 [rasV s w h sv lv, ints ws] (peoV s w h sv lv ws) := by
  refine den_of_awp Try.func25 rfl (by kernel_rfl) (Nat.le_of_ble_eq_true rfl) (by simp only [treeL, AVal.tree, treeL_i, treeL_ints, treeL_append, Bool.and_self, Bool.and_true, Bool.true_and, tree_peoV]) (by first | rfl | simp only [treeL, AVal.tree, treeL_i, treeL_ints, treeL_append, Bool.and_self, Bool.and_true, Bool.true_and, tree_peoV]) mixed (by kernel_rfl) fun hl => ?_
  simp only [lensL, lens, lensL_i, lensL_mapC, maxI, and_true, true_and] at hl
  rw [Try.ntmps25]
  refine ex_start ?_
  by_cases h1 : OkRas s w h sv lv
  · by_cases h2 : ws.length = sv.length
    · simp (config := {decide := true, maxSteps := 1000000}) only [nilQ, nilA, RechL, ReY, isNew, stepO, XPost, postN, XOk, updN, updU, isEff, avalue, aeff, ASt.eval, ASt.put, ASt.set, ASt.new, Nat.reduceDiv, Nat.reduceAdd, Int.reduceToNat, absV, absC, scalar, alen, acap, conc, flats, live, blkOf, aload, rd, part?, afieldAddr, afield, aindexAddr, cellsOf, afill, places, abuild, optI, asliceV, asliceS, szOk, srcCells, aappend, astore, amakeSlice, abuildSlice, snapL, mapO, treeL, AVal.tree, AVal.flatT, isFlat, ares, lookupA, lookupH, tops, if_true, if_false, reduceCtorEq, forall_const, ite_true, ite_false, implies_true, walkS, tabS, Try.results25]
      refine callK (den_ValidRaster s w h sv lv) (by first | exact .inl rfl | exact .inr rfl) ?_
      simp (config := {decide := true, maxSteps := 1000000}) only [nilQ, nilA, RechL, ReY, isNew, stepO, XPost, postN, XOk, updN, updU, isEff, avalue, aeff, ASt.eval, ASt.put, ASt.set, ASt.new, Nat.reduceDiv, Nat.reduceAdd, Int.reduceToNat, absV, absC, scalar, alen, acap, conc, flats, live, blkOf, aload, rd, part?, afieldAddr, afield, aindexAddr, cellsOf, afill, places, abuild, optI, asliceV, asliceS, szOk, srcCells, aappend, astore, amakeSlice, abuildSlice, snapL, mapO, treeL, AVal.tree, AVal.flatT, isFlat, ares, lookupA, lookupH, tops, if_true, if_false, reduceCtorEq, forall_const, ite_true, ite_false, implies_true, walkS, tabS, Try.results25, h1, eq_true h2]
      refine callK (den_allWithin ws _ _) (by first | exact .inl rfl | exact .inr rfl) ?_
      simp (config := {decide := true, maxSteps := 1000000}) only [nilQ, nilA, RechL, ReY, isNew, stepO, XPost, postN, XOk, updN, updU, isEff, avalue, aeff, ASt.eval, ASt.put, ASt.set, ASt.new, Nat.reduceDiv, Nat.reduceAdd, Int.reduceToNat, absV, absC, scalar, alen, acap, conc, flats, live, blkOf, aload, rd, part?, afieldAddr, afield, aindexAddr, cellsOf, afill, places, abuild, optI, asliceV, asliceS, szOk, srcCells, aappend, astore, amakeSlice, abuildSlice, snapL, mapO, treeL, AVal.tree, AVal.flatT, isFlat, ares, lookupA, lookupH, tops, if_true, if_false, reduceCtorEq, forall_const, ite_true, ite_false, implies_true, walkS, tabS, Try.results25]
      refine ⟨fun h3 => (peoV_bad h1 fun h => h3 h.2).symm, fun h3 => ?_⟩
      · have hok : PeoOk sv ws := ⟨h2, h3⟩
        refine callK (den_covered s w h sv lv hb) (by first | exact .inl rfl | exact .inr rfl) ?_
        simp (config := {decide := true, maxSteps := 1000000}) only [nilQ, nilA, RechL, ReY, isNew, stepO, XPost, postN, XOk, updN, updU, isEff, avalue, aeff, ASt.eval, ASt.put, ASt.set, ASt.new, Nat.reduceDiv, Nat.reduceAdd, Int.reduceToNat, absV, absC, scalar, alen, acap, conc, flats, live, blkOf, aload, rd, part?, afieldAddr, afield, aindexAddr, cellsOf, afill, places, abuild, optI, asliceV, asliceS, szOk, srcCells, aappend, astore, amakeSlice, abuildSlice, snapL, mapO, treeL, AVal.tree, AVal.flatT, isFlat, ares, lookupA, lookupH, tops, if_true, if_false, reduceCtorEq, forall_const, ite_true, ite_false, implies_true, walkS, tabS, Try.results25]
        refine ex_loop (fun k : {k : Nat // k ≤ (cov sv).length} => mk [(1, ints ws), (2, .ptr 2 0 0), (6, .i (sumAt ws ((cov sv).take k))), (26, ints (cov sv)), (27, .i (cov sv).length), (28, .i k)] [(2, ⟨0, 5, [.i s, .i w, .i h, ints sv, ints lv]⟩)] 1 40) (fun k => (cov sv).length - k) ⟨0, by simp⟩ ?_ ?_
        · refine weak_mk rfl (by first | exact Nat.le_refl _ | (simp only [mk_gen]; omega)) ?_ ?_ <;> simp (config := {decide := true}) only [w_lookup_nil, w_lookup_cons, ch_ch, ch_lit, lit_ch, wkT, wkH, wkB, WVL, WV_refl', Int.natCast_zero, Int.natCast_add, Int.natCast_one, Nat.sub_self, Nat.sub_zero, List.replicate_zero, List.take_zero, List.nil_append, List.append_nil, fillC_zero, Nat.reduceDiv, Nat.reduceAdd, upd_bk, bk_at, getB_zero, getB_succ, modB_zero, modB_succ, rows_lit, repB_zero, repB_succ, List.length_cons, List.length_nil, upd_upd_same, upd_apply, mk_tmp, mk_heap, mk_gen, lookupA, lookupH, List.getD_cons_zero, List.getD_cons_succ, init_two, tops, Bool.true_and, and_self, and_true, true_and, true_or, if_true, if_false, ite_true, ite_false, reduceCtorEq, reduceIte, sumAt, List.foldl_nil]
        · rintro ⟨k, hk⟩
          by_cases hlt : k < (cov sv).length
          · have hc := covK_le sv sv.length
            have hc' : (cov sv).length ≤ sv.length := hc
            have hw : IntKind.i64.wrap ((k : Int) + 1) = ((k + 1 : Nat) : Int) := wrap64 (by omega) (by omega)
            obtain ⟨n, en, hn⟩ := cov_get hlt
            have hn' : n < ws.length := by omega
            simp (config := {decide := true, maxSteps := 1000000}) only [nilQ, nilA, RechL, ReY, isNew, stepO, XPost, postN, XOk, updN, updU, isEff, avalue, aeff, ASt.eval, ASt.put, ASt.set, ASt.new, Nat.reduceDiv, Nat.reduceAdd, Int.reduceToNat, absV, absC, scalar, alen, acap, conc, flats, live, blkOf, aload, rd, part?, afieldAddr, afield, aindexAddr, cellsOf, afill, places, abuild, optI, asliceV, asliceS, szOk, srcCells, aappend, astore, amakeSlice, abuildSlice, snapL, mapO, treeL, AVal.tree, AVal.flatT, isFlat, ares, lookupA, lookupH, tops, if_true, if_false, reduceCtorEq, forall_const, ite_true, ite_false, implies_true, walkS, tabS, Try.results25, hw, hlt, en, hn']
            refine ⟨⟨k + 1, hlt⟩, ?_, ?_⟩
            · refine weak_mk rfl (by first | exact Nat.le_refl _ | (simp only [mk_gen]; omega)) ?_ ?_ <;> simp (config := {decide := true}) only [w_lookup_nil, w_lookup_cons, ch_ch, ch_lit, lit_ch, wkT, wkH, wkB, WVL, WV_refl', Int.natCast_zero, Int.natCast_add, Int.natCast_one, Nat.sub_self, Nat.sub_zero, List.replicate_zero, List.take_zero, List.nil_append, List.append_nil, fillC_zero, Nat.reduceDiv, Nat.reduceAdd, upd_bk, bk_at, getB_zero, getB_succ, modB_zero, modB_succ, rows_lit, repB_zero, repB_succ, List.length_cons, List.length_nil, upd_upd_same, upd_apply, mk_tmp, mk_heap, mk_gen, lookupA, lookupH, List.getD_cons_zero, List.getD_cons_succ, init_two, tops, Bool.true_and, and_self, and_true, true_and, true_or, if_true, if_false, ite_true, ite_false, reduceCtorEq, reduceIte, List.take_succ_eq_append_getElem hlt, en, sumAt_snoc, Int.toNat_natCast, getD_lt hn']
            · show _ - (k + 1) < _ - k
              omega
          · have e : k = (cov sv).length := by omega
            subst e
            simp (config := {decide := true, maxSteps := 1000000}) only [nilQ, nilA, RechL, ReY, isNew, stepO, XPost, postN, XOk, updN, updU, isEff, avalue, aeff, ASt.eval, ASt.put, ASt.set, ASt.new, Nat.reduceDiv, Nat.reduceAdd, Int.reduceToNat, absV, absC, scalar, alen, acap, conc, flats, live, blkOf, aload, rd, part?, afieldAddr, afield, aindexAddr, cellsOf, afill, places, abuild, optI, asliceV, asliceS, szOk, srcCells, aappend, astore, amakeSlice, abuildSlice, snapL, mapO, treeL, AVal.tree, AVal.flatT, isFlat, ares, lookupA, lookupH, tops, if_true, if_false, reduceCtorEq, forall_const, ite_true, ite_false, implies_true, walkS, tabS, Try.results25, hlt, peoV_yes h1 hok]
    · have hok : ¬ PeoOk sv ws := fun h => h2 h.1
      simp (config := {decide := true, maxSteps := 1000000}) only [nilQ, nilA, RechL, ReY, isNew, stepO, XPost, postN, XOk, updN, updU, isEff, avalue, aeff, ASt.eval, ASt.put, ASt.set, ASt.new, Nat.reduceDiv, Nat.reduceAdd, Int.reduceToNat, absV, absC, scalar, alen, acap, conc, flats, live, blkOf, aload, rd, part?, afieldAddr, afield, aindexAddr, cellsOf, afill, places, abuild, optI, asliceV, asliceS, szOk, srcCells, aappend, astore, amakeSlice, abuildSlice, snapL, mapO, treeL, AVal.tree, AVal.flatT, isFlat, ares, lookupA, lookupH, tops, if_true, if_false, reduceCtorEq, forall_const, ite_true, ite_false, implies_true, walkS, tabS, Try.results25]
      refine callK (den_ValidRaster s w h sv lv) (by first | exact .inl rfl | exact .inr rfl) ?_
      simp (config := {decide := true, maxSteps := 1000000}) only [nilQ, nilA, RechL, ReY, isNew, stepO, XPost, postN, XOk, updN, updU, isEff, avalue, aeff, ASt.eval, ASt.put, ASt.set, ASt.new, Nat.reduceDiv, Nat.reduceAdd, Int.reduceToNat, absV, absC, scalar, alen, acap, conc, flats, live, blkOf, aload, rd, part?, afieldAddr, afield, aindexAddr, cellsOf, afill, places, abuild, optI, asliceV, asliceS, szOk, srcCells, aappend, astore, amakeSlice, abuildSlice, snapL, mapO, treeL, AVal.tree, AVal.flatT, isFlat, ares, lookupA, lookupH, tops, if_true, if_false, reduceCtorEq, forall_const, ite_true, ite_false, implies_true, walkS, tabS, Try.results25, h1, h2, peoV_bad h1 hok]
  · rw [peoV_no h1]
    simp (config := {decide := true, maxSteps := 1000000}) only [nilQ, nilA, RechL, ReY, isNew, stepO, XPost, postN, XOk, updN, updU, isEff, avalue, aeff, ASt.eval, ASt.put, ASt.set, ASt.new, Nat.reduceDiv, Nat.reduceAdd, Int.reduceToNat, absV, absC, scalar, alen, acap, conc, flats, live, blkOf, aload, rd, part?, afieldAddr, afield, aindexAddr, cellsOf, afill, places, abuild, optI, asliceV, asliceS, szOk, srcCells, aappend, astore, amakeSlice, abuildSlice, snapL, mapO, treeL, AVal.tree, AVal.flatT, isFlat, ares, lookupA, lookupH, tops, if_true, if_false, reduceCtorEq, forall_const, ite_true, ite_false, implies_true, walkS, tabS, Try.results25]
    refine callK (den_ValidRaster s w h sv lv) (by first | exact .inl rfl | exact .inr rfl) ?_
    simp (config := {decide := true, maxSteps := 1000000}) only [nilQ, nilA, RechL, ReY, isNew, stepO, XPost, postN, XOk, updN, updU, isEff, avalue, aeff, ASt.eval, ASt.put, ASt.set, ASt.new, Nat.reduceDiv, Nat.reduceAdd, Int.reduceToNat, absV, absC, scalar, alen, acap, conc, flats, live, blkOf, aload, rd, part?, afieldAddr, afield, aindexAddr, cellsOf, afill, places, abuild, optI, asliceV, asliceS, szOk, srcCells, aappend, astore, amakeSlice, abuildSlice, snapL, mapO, treeL, AVal.tree, AVal.flatT, isFlat, ares, lookupA, lookupH, tops, if_true, if_false, reduceCtorEq, forall_const, ite_true, ite_false, implies_true, walkS, tabS, Try.results25, h1]
end Go.Proofs.Ytdbongnhdlbplaa
