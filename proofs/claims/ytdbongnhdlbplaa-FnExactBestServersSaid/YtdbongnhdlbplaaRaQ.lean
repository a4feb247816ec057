/-
  OWN WORK: a server added to a raster.
-/
import Derived.Test.YtdbongnhdlbplaaRaP
import Derived.Test.YtdbongnhdlbplaaRaN
namespace Go.Proofs.Ytdbongnhdlbplaa
open Go Go.Own Go.Proofs
set_option maxHeartbeats 4000000
set_option maxRecDepth 20000
set_option linter.unusedSimpArgs false
noncomputable def upK (c : Nat → Prop) (v : Nat → Int) (a : List Int) (k : Nat) : List Int := (List.range a.length).map fun i => if bp (i < k ∧ c i) then v i else a.getD i 0
section
variable {c : Nat → Prop} {v : Nat → Int} {a : List Int} {k : Nat}
theorem upK_length : (upK c v a k).length = a.length := by simp [upK]
theorem upK_get {i : Nat} (h : i < a.length) : (upK c v a k)[i]'(by rw [upK_length]; exact h) = if bp (i < k ∧ c i) then v i else a[i] := by
  simp [upK, List.getD, h]
theorem upK_zero : upK c v a 0 = a := by
  apply List.ext_getElem
  · exact upK_length
  · intro i h1 h2
    rw [upK_get h2, if_neg (by rw [bp_true]; omega)]
theorem upK_yes (h : c k) : (upK c v a k).set k (v k) = upK c v a (k + 1) := by
  apply List.ext_getElem
  · simp [upK_length]
  · intro i h1 h2
    have hi : i < a.length := by rw [upK_length] at h2; exact h2
    rw [List.getElem_set, upK_get hi, upK_get hi]
    by_cases e : k = i
    · subst e
      rw [if_pos rfl, if_pos (by rw [bp_true]; exact ⟨by omega, h⟩)]
    · rw [if_neg e, show bp (i < k + 1 ∧ c i) = bp (i < k ∧ c i) from bp_congr ⟨fun h => ⟨by omega, h.2⟩, fun h => ⟨by omega, h.2⟩⟩]
theorem upK_no (h : ¬ c k) : upK c v a (k + 1) = upK c v a k := by
  apply List.ext_getElem
  · simp [upK_length]
  · intro i h1 h2
    have hi : i < a.length := by rw [upK_length] at h2; exact h2
    rw [upK_get hi, upK_get hi, show bp (i < k + 1 ∧ c i) = bp (i < k ∧ c i) from bp_congr ⟨fun h2 => ⟨by
      have : i ≠ k := fun e => h (e ▸ h2.2)
      omega, h2.2⟩, fun h => ⟨by omega, h.2⟩⟩]
theorem upK_at (h : k < a.length) : (upK c v a k)[k]'(by rw [upK_length]; exact h) = a[k] := by rw [upK_get h, if_neg (by rw [bp_true]; omega)]
end
def adC (sv lv xs : List Int) (least : Int) (i : Nat) : Prop := least ≤ xs.getD i 0 ∧ (sv.getD i 0 < 0 ∨ lv.getD i 0 < xs.getD i 0)
noncomputable def adS (sv lv xs : List Int) (server least : Int) (k : Nat) : List Int := upK (adC sv lv xs least) (fun _ => server) sv k
noncomputable def adL (sv lv xs : List Int) (least : Int) (k : Nat) : List Int := upK (adC sv lv xs least) (fun i => xs.getD i 0) lv k
theorem den_l20List (xs : List Int) (n : Nat) : Den Try.prog 65 [ints xs, .i n] (.b (bp (xs.length = n ∧ ∀ x ∈ xs, LevOk x))) := by
  refine den_of_awp Try.func65 rfl (by kernel_rfl) (Nat.le_of_ble_eq_true rfl) (by simp only [treeL, AVal.tree, treeL_i, treeL_ints, treeL_append, Bool.and_self, Bool.and_true, Bool.true_and]) (by first | rfl | simp only [treeL, AVal.tree, treeL_i, treeL_ints, treeL_append, Bool.and_self, Bool.and_true, Bool.true_and]) mixed (by kernel_rfl) fun hl => ?_
  simp only [lensL, lens, lensL_i, lensL_mapC, maxI, and_true, true_and] at hl
  rw [Try.ntmps65]
  refine ex_start ?_
  by_cases h : xs.length = n
  · subst h
    simp (config := {decide := true, maxSteps := 1000000}) only [NoH, Old, OldL, nilQ, nilA, RechL, ReY, isNew, stepO, XPost, postN, XOk, updN, updU, isEff, avalue, aeff, ASt.eval, ASt.put, ASt.set, ASt.new, Nat.reduceDiv, Nat.reduceAdd, Int.reduceToNat, absV, absC, scalar, alen, acap, conc, flats, live, blkOf, aload, rd, part?, afieldAddr, afield, aindexAddr, cellsOf, afill, places, abuild, optI, asliceV, asliceS, szOk, srcCells, aappend, astore, amakeSlice, abuildSlice, snapL, mapO, treeL, AVal.tree, AVal.flatT, isFlat, ares, isFz, afroz, afrozB, lookupA, lookupH, tops, if_true, if_false, reduceCtorEq, forall_const, ite_true, ite_false, implies_true, walkS, tabS, Try.results65]
    refine ex_loop (fun k : {k : Nat // k ≤ xs.length ∧ ∀ i (h : i < xs.length), i < k → LevOk xs[i]} => mk [(0, ints xs), (5, .i k)] [] 0 22) (fun k => xs.length - k) ⟨0, by simp⟩ ?_ ?_
    · refine weak_mk rfl (by first | exact Nat.le_refl _ | (simp only [mk_gen]; omega)) ?_ ?_ <;> simp (config := {decide := true}) only [w_lookup_nil, w_lookup_cons, ch_ch, ch_lit, lit_ch, wkT, wkH, wkB, WVL, WV_refl', Int.natCast_zero, Int.natCast_add, Int.natCast_one, Nat.sub_self, Nat.sub_zero, List.replicate_zero, List.take_zero, List.nil_append, List.append_nil, fillC_zero, Nat.reduceDiv, Nat.reduceAdd, upd_bk, bk_at, getB_zero, getB_succ, modB_zero, modB_succ, rows_lit, repB_zero, repB_succ, List.length_cons, List.length_nil, upd_upd_same, upd_apply, mk_tmp, mk_heap, mk_gen, lookupA, lookupH, List.getD_cons_zero, List.getD_cons_succ, init_two, tops, Bool.true_and, and_self, and_true, true_and, true_or, if_true, if_false, ite_true, ite_false, reduceCtorEq, reduceIte]
    · rintro ⟨k, hk, hkk⟩
      by_cases hlt : k < xs.length
      · have hw : IntKind.i64.wrap ((k : Int) + 1) = ((k + 1 : Nat) : Int) := wrap64 (by omega) (by omega)
        simp (config := {decide := true, maxSteps := 1000000}) only [NoH, Old, OldL, nilQ, nilA, RechL, ReY, isNew, stepO, XPost, postN, XOk, updN, updU, isEff, avalue, aeff, ASt.eval, ASt.put, ASt.set, ASt.new, Nat.reduceDiv, Nat.reduceAdd, Int.reduceToNat, absV, absC, scalar, alen, acap, conc, flats, live, blkOf, aload, rd, part?, afieldAddr, afield, aindexAddr, cellsOf, afill, places, abuild, optI, asliceV, asliceS, szOk, srcCells, aappend, astore, amakeSlice, abuildSlice, snapL, mapO, treeL, AVal.tree, AVal.flatT, isFlat, ares, isFz, afroz, afrozB, lookupA, lookupH, tops, if_true, if_false, reduceCtorEq, forall_const, ite_true, ite_false, implies_true, walkS, tabS, Try.results65, hw, hlt]
        refine callK (den_l02Level _) (by first | exact .inl rfl | exact .inr rfl) ?_
        by_cases h2 : LevOk xs[k]
        · have h2' : -300000 ≤ xs[k] ∧ xs[k] ≤ 300000 := h2
          simp (config := {decide := true, maxSteps := 1000000}) only [NoH, Old, OldL, nilQ, nilA, RechL, ReY, isNew, stepO, XPost, postN, XOk, updN, updU, isEff, avalue, aeff, ASt.eval, ASt.put, ASt.set, ASt.new, Nat.reduceDiv, Nat.reduceAdd, Int.reduceToNat, absV, absC, scalar, alen, acap, conc, flats, live, blkOf, aload, rd, part?, afieldAddr, afield, aindexAddr, cellsOf, afill, places, abuild, optI, asliceV, asliceS, szOk, srcCells, aappend, astore, amakeSlice, abuildSlice, snapL, mapO, treeL, AVal.tree, AVal.flatT, isFlat, ares, isFz, afroz, afrozB, lookupA, lookupH, tops, if_true, if_false, reduceCtorEq, forall_const, ite_true, ite_false, implies_true, walkS, tabS, Try.results65, hw, h2']
          refine ⟨⟨k + 1, hlt, fun i hi hik => ?_⟩, ?_, by show _ - (k + 1) < _ - k; omega⟩
          · by_cases e : i = k
            · subst e; exact h2
            · exact hkk i hi (by omega)
          · refine weak_mk rfl (by first | exact Nat.le_refl _ | (simp only [mk_gen]; omega)) ?_ ?_ <;> simp (config := {decide := true}) only [w_lookup_nil, w_lookup_cons, ch_ch, ch_lit, lit_ch, wkT, wkH, wkB, WVL, WV_refl', Int.natCast_zero, Int.natCast_add, Int.natCast_one, Nat.sub_self, Nat.sub_zero, List.replicate_zero, List.take_zero, List.nil_append, List.append_nil, fillC_zero, Nat.reduceDiv, Nat.reduceAdd, upd_bk, bk_at, getB_zero, getB_succ, modB_zero, modB_succ, rows_lit, repB_zero, repB_succ, List.length_cons, List.length_nil, upd_upd_same, upd_apply, mk_tmp, mk_heap, mk_gen, lookupA, lookupH, List.getD_cons_zero, List.getD_cons_succ, init_two, tops, Bool.true_and, and_self, and_true, true_and, true_or, if_true, if_false, ite_true, ite_false, reduceCtorEq, reduceIte]
        · have h2' : ¬ (-300000 ≤ xs[k] ∧ xs[k] ≤ 300000) := h2
          simp (config := {decide := true, maxSteps := 1000000}) only [NoH, Old, OldL, nilQ, nilA, RechL, ReY, isNew, stepO, XPost, postN, XOk, updN, updU, isEff, avalue, aeff, ASt.eval, ASt.put, ASt.set, ASt.new, Nat.reduceDiv, Nat.reduceAdd, Int.reduceToNat, absV, absC, scalar, alen, acap, conc, flats, live, blkOf, aload, rd, part?, afieldAddr, afield, aindexAddr, cellsOf, afill, places, abuild, optI, asliceV, asliceS, szOk, srcCells, aappend, astore, amakeSlice, abuildSlice, snapL, mapO, treeL, AVal.tree, AVal.flatT, isFlat, ares, isFz, afroz, afrozB, lookupA, lookupH, tops, if_true, if_false, reduceCtorEq, forall_const, ite_true, ite_false, implies_true, walkS, tabS, Try.results65, hw, eq_false h2']
          exact fun hr => h2 (hr _ (List.getElem_mem hlt))
      · simp (config := {decide := true, maxSteps := 1000000}) only [NoH, Old, OldL, nilQ, nilA, RechL, ReY, isNew, stepO, XPost, postN, XOk, updN, updU, isEff, avalue, aeff, ASt.eval, ASt.put, ASt.set, ASt.new, Nat.reduceDiv, Nat.reduceAdd, Int.reduceToNat, absV, absC, scalar, alen, acap, conc, flats, live, blkOf, aload, rd, part?, afieldAddr, afield, aindexAddr, cellsOf, afill, places, abuild, optI, asliceV, asliceS, szOk, srcCells, aappend, astore, amakeSlice, abuildSlice, snapL, mapO, treeL, AVal.tree, AVal.flatT, isFlat, ares, isFz, afroz, afrozB, lookupA, lookupH, tops, if_true, if_false, reduceCtorEq, forall_const, ite_true, ite_false, implies_true, walkS, tabS, Try.results65, hlt]
        refine fun x hx => ?_
        obtain ⟨i, hi, rfl⟩ := List.getElem_of_mem hx
        exact hkk i hi (by omega)
  · have h' : ¬ (xs.length : Int) = n := by omega
    simp (config := {decide := true, maxSteps := 1000000}) only [NoH, Old, OldL, nilQ, nilA, RechL, ReY, isNew, stepO, XPost, postN, XOk, updN, updU, isEff, avalue, aeff, ASt.eval, ASt.put, ASt.set, ASt.new, Nat.reduceDiv, Nat.reduceAdd, Int.reduceToNat, absV, absC, scalar, alen, acap, conc, flats, live, blkOf, aload, rd, part?, afieldAddr, afield, aindexAddr, cellsOf, afill, places, abuild, optI, asliceV, asliceS, szOk, srcCells, aappend, astore, amakeSlice, abuildSlice, snapL, mapO, treeL, AVal.tree, AVal.flatT, isFlat, ares, isFz, afroz, afrozB, lookupA, lookupH, tops, if_true, if_false, reduceCtorEq, forall_const, ite_true, ite_false, implies_true, walkS, tabS, Try.results65, eq_false h, h]
theorem den_l20Add (s w h : Int) (sv lv xs : List Int) (server least : Int) (hls : sv.length = lv.length) (hlx : xs.length = lv.length) (hb : lv.length ≤ 1000000) : Den Try.prog 66 [rasP s w h sv lv, .i server, ints xs, .i least] (rasV s w h (adS sv lv xs server least lv.length) (adL sv lv xs least lv.length)) := by
  refine den_of_awpG (ghl [] [] [(1, 23)]) Try.func66 rfl (by kernel_rfl) (Nat.le_of_ble_eq_true rfl) (by simp only [treeL, AVal.tree, treeL_i, treeL_ints, treeL_append, Bool.and_self, Bool.and_true, Bool.true_and]) (by first | rfl | simp only [treeL, AVal.tree, treeL_i, treeL_ints, treeL_append, Bool.and_self, Bool.and_true, Bool.true_and]) mixed (by kernel_rfl) fun hl => ?_
  simp only [lensL, lens, lensL_i, lensL_mapC, maxI, and_true, true_and] at hl
  rw [Try.ntmps66]
  refine ex_start ?_
  simp (config := {decide := true, maxSteps := 1000000}) only [NoH, Old, OldL, nilQ, nilA, RechL, ReY, isNew, stepO, XPost, postN, XOk, updN, updU, isEff, avalue, aeff, ASt.eval, ASt.put, ASt.set, ASt.new, Nat.reduceDiv, Nat.reduceAdd, Int.reduceToNat, absV, absC, scalar, alen, acap, conc, flats, live, blkOf, aload, rd, part?, afieldAddr, afield, aindexAddr, cellsOf, afill, places, abuild, optI, asliceV, asliceS, szOk, srcCells, aappend, astore, amakeSlice, abuildSlice, snapL, mapO, treeL, AVal.tree, AVal.flatT, isFlat, ares, isFz, afroz, afrozB, lookupA, lookupH, tops, if_true, if_false, reduceCtorEq, forall_const, ite_true, ite_false, implies_true, walkS, tabS, Try.results66]
  refine ex_late (ka := 23) rfl (by kernel_rfl) ?_
  simp (config := {decide := true, maxSteps := 1000000}) only [NoH, Old, OldL, nilQ, nilA, RechL, ReY, isNew, stepO, XPost, postN, XOk, updN, updU, isEff, avalue, aeff, ASt.eval, ASt.put, ASt.set, ASt.new, Nat.reduceDiv, Nat.reduceAdd, Int.reduceToNat, absV, absC, scalar, alen, acap, conc, flats, live, blkOf, aload, rd, part?, afieldAddr, afield, aindexAddr, cellsOf, afill, places, abuild, optI, asliceV, asliceS, szOk, srcCells, aappend, astore, amakeSlice, abuildSlice, snapL, mapO, treeL, AVal.tree, AVal.flatT, isFlat, ares, isFz, afroz, afrozB, lookupA, lookupH, tops, if_true, if_false, reduceCtorEq, forall_const, ite_true, ite_false, implies_true, walkS, tabS, Try.results66, lateOps, lateL, late2, qtO, P0, List.set_cons_succ, List.set_cons_zero]
  refine callX (denx_l00Own sv (by omega)) (by simp (config := {decide := true, maxSteps := 1000000}) only [NoH, Old, OldL, nilQ, nilA, RechL, ReY, isNew, stepO, XPost, postN, XOk, updN, updU, isEff, avalue, aeff, ASt.eval, ASt.put, ASt.set, ASt.new, Nat.reduceDiv, Nat.reduceAdd, Int.reduceToNat, absV, absC, scalar, alen, acap, conc, flats, live, blkOf, aload, rd, part?, afieldAddr, afield, aindexAddr, cellsOf, afill, places, abuild, optI, asliceV, asliceS, szOk, srcCells, aappend, astore, amakeSlice, abuildSlice, snapL, mapO, treeL, AVal.tree, AVal.flatT, isFlat, ares, isFz, afroz, afrozB, lookupA, lookupH, tops, if_true, if_false, reduceCtorEq, forall_const, ite_true, ite_false, implies_true, walkS, tabS, Try.results66]) ?_
  simp (config := {decide := true, maxSteps := 1000000}) only [NoH, Old, OldL, nilQ, nilA, RechL, ReY, isNew, stepO, XPost, postN, XOk, updN, updU, isEff, avalue, aeff, ASt.eval, ASt.put, ASt.set, ASt.new, Nat.reduceDiv, Nat.reduceAdd, Int.reduceToNat, absV, absC, scalar, alen, acap, conc, flats, live, blkOf, aload, rd, part?, afieldAddr, afield, aindexAddr, cellsOf, afill, places, abuild, optI, asliceV, asliceS, szOk, srcCells, aappend, astore, amakeSlice, abuildSlice, snapL, mapO, treeL, AVal.tree, AVal.flatT, isFlat, ares, isFz, afroz, afrozB, lookupA, lookupH, tops, if_true, if_false, reduceCtorEq, forall_const, ite_true, ite_false, implies_true, walkS, tabS, Try.results66]
  refine callX (denx_l00Own lv (by omega)) (by simp (config := {decide := true, maxSteps := 1000000}) only [NoH, Old, OldL, nilQ, nilA, RechL, ReY, isNew, stepO, XPost, postN, XOk, updN, updU, isEff, avalue, aeff, ASt.eval, ASt.put, ASt.set, ASt.new, Nat.reduceDiv, Nat.reduceAdd, Int.reduceToNat, absV, absC, scalar, alen, acap, conc, flats, live, blkOf, aload, rd, part?, afieldAddr, afield, aindexAddr, cellsOf, afill, places, abuild, optI, asliceV, asliceS, szOk, srcCells, aappend, astore, amakeSlice, abuildSlice, snapL, mapO, treeL, AVal.tree, AVal.flatT, isFlat, ares, isFz, afroz, afrozB, lookupA, lookupH, tops, if_true, if_false, reduceCtorEq, forall_const, ite_true, ite_false, implies_true, walkS, tabS, Try.results66]) ?_
  simp (config := {decide := true, maxSteps := 1000000}) only [NoH, Old, OldL, nilQ, nilA, RechL, ReY, isNew, stepO, XPost, postN, XOk, updN, updU, isEff, avalue, aeff, ASt.eval, ASt.put, ASt.set, ASt.new, Nat.reduceDiv, Nat.reduceAdd, Int.reduceToNat, absV, absC, scalar, alen, acap, conc, flats, live, blkOf, aload, rd, part?, afieldAddr, afield, aindexAddr, cellsOf, afill, places, abuild, optI, asliceV, asliceS, szOk, srcCells, aappend, astore, amakeSlice, abuildSlice, snapL, mapO, treeL, AVal.tree, AVal.flatT, isFlat, ares, isFz, afroz, afrozB, lookupA, lookupH, tops, if_true, if_false, reduceCtorEq, forall_const, ite_true, ite_false, implies_true, walkS, tabS, Try.results66]
  refine ex_loop (fun k : {k : Nat // k ≤ lv.length} => mkG (ghl [] [] [(1, 23)]) [(1, .i server), (2, ints xs), (3, .i least), (8, .ptr 8 0 0), (9, .ptr 9 3 0), (10, .i k)] [(8, ⟨0, 5, [.i 0, .i 0, .i 0, .nl, .nl]⟩), (9, ⟨3, 5, [.i s, .i w, .i h, .own 27 1 0 sv.length, .own 32 2 0 lv.length]⟩), (27, ⟨1, 1, mapC AVal.i (adS sv lv xs server least k)⟩), (32, ⟨2, 1, mapC AVal.i (adL sv lv xs least k)⟩)] 4 80) (fun k => lv.length - k) ⟨0, by simp⟩ ?_ ?_
  · refine weak_mk rfl (by first | exact Nat.le_refl _ | (simp only [mk_gen]; omega)) ?_ ?_ <;> simp (config := {decide := true}) only [w_lookup_nil, w_lookup_cons, ch_ch, ch_lit, lit_ch, wkT, wkH, wkB, WVL, WV_refl', Int.natCast_zero, Int.natCast_add, Int.natCast_one, Nat.sub_self, Nat.sub_zero, List.replicate_zero, List.take_zero, List.nil_append, List.append_nil, fillC_zero, Nat.reduceDiv, Nat.reduceAdd, upd_bk, bk_at, getB_zero, getB_succ, modB_zero, modB_succ, rows_lit, repB_zero, repB_succ, List.length_cons, List.length_nil, upd_upd_same, upd_apply, mk_tmp, mk_heap, mk_gen, lookupA, lookupH, List.getD_cons_zero, List.getD_cons_succ, init_two, tops, Bool.true_and, and_self, and_true, true_and, true_or, if_true, if_false, ite_true, ite_false, reduceCtorEq, reduceIte, adS, adL, upK_zero]
  · rintro ⟨k, hk⟩
    have g1 : (adS sv lv xs server least k).length = lv.length := by rw [adS, upK_length, hls]
    have g2 : (adL sv lv xs least k).length = lv.length := upK_length
    by_cases klt : k < lv.length
    · have hw : IntKind.i64.wrap ((k : Int) + 1) = ((k + 1 : Nat) : Int) := wrap64 (by omega) (by omega)
      have k1 : k < sv.length := by omega
      have k3 : k < xs.length := by omega
      have hm : lv.length - (k + 1) < lv.length - k := by omega
      have ga : (adS sv lv xs server least k)[k]'(by omega) = sv[k] := upK_at k1
      have gb : (adL sv lv xs least k)[k]'(by omega) = lv[k] := upK_at klt
      have hcd : adC sv lv xs least k ↔ (least ≤ xs[k] ∧ (sv[k] < 0 ∨ lv[k] < xs[k])) := by unfold adC; rw [getD_at k1, getD_at klt, getD_at k3]
      have yes : adC sv lv xs least k → (adS sv lv xs server least k).set k server = adS sv lv xs server least (k + 1) ∧ (adL sv lv xs least k).set k xs[k] = adL sv lv xs least (k + 1) := fun h => by
        have m2 := upK_yes (v := fun i => xs.getD i 0) (a := lv) h
        rw [getD_at k3] at m2
        exact ⟨upK_yes (v := fun _ => server) (a := sv) h, m2⟩
      have no : ¬ adC sv lv xs least k → adS sv lv xs server least (k + 1) = adS sv lv xs server least k ∧ adL sv lv xs least (k + 1) = adL sv lv xs least k := fun h => ⟨upK_no h, upK_no h⟩
      by_cases c1 : least ≤ xs[k]
      · by_cases c2 : sv[k] < 0
        · obtain ⟨m1, m2⟩ := yes (hcd.2 ⟨c1, .inl c2⟩)
          simp (config := {decide := true, maxSteps := 1000000}) only [NoH, Old, OldL, nilQ, nilA, RechL, ReY, isNew, stepO, XPost, postN, XOk, updN, updU, isEff, avalue, aeff, ASt.eval, ASt.put, ASt.set, ASt.new, Nat.reduceDiv, Nat.reduceAdd, Int.reduceToNat, absV, absC, scalar, alen, acap, conc, flats, live, blkOf, aload, rd, part?, afieldAddr, afield, aindexAddr, cellsOf, afill, places, abuild, optI, asliceV, asliceS, szOk, srcCells, aappend, astore, amakeSlice, abuildSlice, snapL, mapO, treeL, AVal.tree, AVal.flatT, isFlat, ares, isFz, afroz, afrozB, lookupA, lookupH, tops, if_true, if_false, reduceCtorEq, forall_const, ite_true, ite_false, implies_true, walkS, tabS, Try.results66, hw, klt, k1, k3, ga, gb, eq_true c1, eq_true c2, g1, g2, hls, hlx, m1, m2, mapC_set]
          refine ⟨⟨k + 1, klt⟩, ?_, hm⟩
          refine weak_mk rfl (by first | exact Nat.le_refl _ | (simp only [mk_gen]; omega)) ?_ ?_ <;> simp (config := {decide := true}) only [w_lookup_nil, w_lookup_cons, ch_ch, ch_lit, lit_ch, wkT, wkH, wkB, WVL, WV_refl', Int.natCast_zero, Int.natCast_add, Int.natCast_one, Nat.sub_self, Nat.sub_zero, List.replicate_zero, List.take_zero, List.nil_append, List.append_nil, fillC_zero, Nat.reduceDiv, Nat.reduceAdd, upd_bk, bk_at, getB_zero, getB_succ, modB_zero, modB_succ, rows_lit, repB_zero, repB_succ, List.length_cons, List.length_nil, upd_upd_same, upd_apply, mk_tmp, mk_heap, mk_gen, lookupA, lookupH, List.getD_cons_zero, List.getD_cons_succ, init_two, tops, Bool.true_and, and_self, and_true, true_and, true_or, if_true, if_false, ite_true, ite_false, reduceCtorEq, reduceIte, hls]
        · by_cases c3 : lv[k] < xs[k]
          · obtain ⟨m1, m2⟩ := yes (hcd.2 ⟨c1, .inr c3⟩)
            simp (config := {decide := true, maxSteps := 1000000}) only [NoH, Old, OldL, nilQ, nilA, RechL, ReY, isNew, stepO, XPost, postN, XOk, updN, updU, isEff, avalue, aeff, ASt.eval, ASt.put, ASt.set, ASt.new, Nat.reduceDiv, Nat.reduceAdd, Int.reduceToNat, absV, absC, scalar, alen, acap, conc, flats, live, blkOf, aload, rd, part?, afieldAddr, afield, aindexAddr, cellsOf, afill, places, abuild, optI, asliceV, asliceS, szOk, srcCells, aappend, astore, amakeSlice, abuildSlice, snapL, mapO, treeL, AVal.tree, AVal.flatT, isFlat, ares, isFz, afroz, afrozB, lookupA, lookupH, tops, if_true, if_false, reduceCtorEq, forall_const, ite_true, ite_false, implies_true, walkS, tabS, Try.results66, hw, klt, k1, k3, ga, gb, eq_true c1, eq_false c2, eq_true c3, g1, g2, hls, hlx, m1, m2, mapC_set]
            refine ⟨⟨k + 1, klt⟩, ?_, hm⟩
            refine weak_mk rfl (by first | exact Nat.le_refl _ | (simp only [mk_gen]; omega)) ?_ ?_ <;> simp (config := {decide := true}) only [w_lookup_nil, w_lookup_cons, ch_ch, ch_lit, lit_ch, wkT, wkH, wkB, WVL, WV_refl', Int.natCast_zero, Int.natCast_add, Int.natCast_one, Nat.sub_self, Nat.sub_zero, List.replicate_zero, List.take_zero, List.nil_append, List.append_nil, fillC_zero, Nat.reduceDiv, Nat.reduceAdd, upd_bk, bk_at, getB_zero, getB_succ, modB_zero, modB_succ, rows_lit, repB_zero, repB_succ, List.length_cons, List.length_nil, upd_upd_same, upd_apply, mk_tmp, mk_heap, mk_gen, lookupA, lookupH, List.getD_cons_zero, List.getD_cons_succ, init_two, tops, Bool.true_and, and_self, and_true, true_and, true_or, if_true, if_false, ite_true, ite_false, reduceCtorEq, reduceIte, hls]
          · obtain ⟨m1, m2⟩ := no (fun h => (hcd.1 h).2.elim c2 c3)
            simp (config := {decide := true, maxSteps := 1000000}) only [NoH, Old, OldL, nilQ, nilA, RechL, ReY, isNew, stepO, XPost, postN, XOk, updN, updU, isEff, avalue, aeff, ASt.eval, ASt.put, ASt.set, ASt.new, Nat.reduceDiv, Nat.reduceAdd, Int.reduceToNat, absV, absC, scalar, alen, acap, conc, flats, live, blkOf, aload, rd, part?, afieldAddr, afield, aindexAddr, cellsOf, afill, places, abuild, optI, asliceV, asliceS, szOk, srcCells, aappend, astore, amakeSlice, abuildSlice, snapL, mapO, treeL, AVal.tree, AVal.flatT, isFlat, ares, isFz, afroz, afrozB, lookupA, lookupH, tops, if_true, if_false, reduceCtorEq, forall_const, ite_true, ite_false, implies_true, walkS, tabS, Try.results66, hw, klt, k1, k3, ga, gb, eq_true c1, eq_false c2, eq_false c3, g1, g2, hls, hlx]
            refine ⟨⟨k + 1, klt⟩, ?_, hm⟩
            refine weak_mk rfl (by first | exact Nat.le_refl _ | (simp only [mk_gen]; omega)) ?_ ?_ <;> simp (config := {decide := true}) only [w_lookup_nil, w_lookup_cons, ch_ch, ch_lit, lit_ch, wkT, wkH, wkB, WVL, WV_refl', Int.natCast_zero, Int.natCast_add, Int.natCast_one, Nat.sub_self, Nat.sub_zero, List.replicate_zero, List.take_zero, List.nil_append, List.append_nil, fillC_zero, Nat.reduceDiv, Nat.reduceAdd, upd_bk, bk_at, getB_zero, getB_succ, modB_zero, modB_succ, rows_lit, repB_zero, repB_succ, List.length_cons, List.length_nil, upd_upd_same, upd_apply, mk_tmp, mk_heap, mk_gen, lookupA, lookupH, List.getD_cons_zero, List.getD_cons_succ, init_two, tops, Bool.true_and, and_self, and_true, true_and, true_or, if_true, if_false, ite_true, ite_false, reduceCtorEq, reduceIte, m1, m2, hls]
      · obtain ⟨m1, m2⟩ := no (fun h => c1 (hcd.1 h).1)
        simp (config := {decide := true, maxSteps := 1000000}) only [NoH, Old, OldL, nilQ, nilA, RechL, ReY, isNew, stepO, XPost, postN, XOk, updN, updU, isEff, avalue, aeff, ASt.eval, ASt.put, ASt.set, ASt.new, Nat.reduceDiv, Nat.reduceAdd, Int.reduceToNat, absV, absC, scalar, alen, acap, conc, flats, live, blkOf, aload, rd, part?, afieldAddr, afield, aindexAddr, cellsOf, afill, places, abuild, optI, asliceV, asliceS, szOk, srcCells, aappend, astore, amakeSlice, abuildSlice, snapL, mapO, treeL, AVal.tree, AVal.flatT, isFlat, ares, isFz, afroz, afrozB, lookupA, lookupH, tops, if_true, if_false, reduceCtorEq, forall_const, ite_true, ite_false, implies_true, walkS, tabS, Try.results66, hw, klt, k1, k3, ga, gb, eq_false c1, g1, g2, hls, hlx]
        refine ⟨⟨k + 1, klt⟩, ?_, hm⟩
        refine weak_mk rfl (by first | exact Nat.le_refl _ | (simp only [mk_gen]; omega)) ?_ ?_ <;> simp (config := {decide := true}) only [w_lookup_nil, w_lookup_cons, ch_ch, ch_lit, lit_ch, wkT, wkH, wkB, WVL, WV_refl', Int.natCast_zero, Int.natCast_add, Int.natCast_one, Nat.sub_self, Nat.sub_zero, List.replicate_zero, List.take_zero, List.nil_append, List.append_nil, fillC_zero, Nat.reduceDiv, Nat.reduceAdd, upd_bk, bk_at, getB_zero, getB_succ, modB_zero, modB_succ, rows_lit, repB_zero, repB_succ, List.length_cons, List.length_nil, upd_upd_same, upd_apply, mk_tmp, mk_heap, mk_gen, lookupA, lookupH, List.getD_cons_zero, List.getD_cons_succ, init_two, tops, Bool.true_and, and_self, and_true, true_and, true_or, if_true, if_false, ite_true, ite_false, reduceCtorEq, reduceIte, m1, m2, hls]
    · have e : k = lv.length := by omega
      subst e
      have g1' : (adS sv lv xs server least lv.length).length = sv.length := upK_length
      have klt' : ¬ lv.length < xs.length := by omega
      have t1 : List.take sv.length (adS sv lv xs server least lv.length) = adS sv lv xs server least lv.length := List.take_of_length_le (by omega)
      have t2 : List.take lv.length (adL sv lv xs least lv.length) = adL sv lv xs least lv.length := List.take_of_length_le (by omega)
      simp (config := {decide := true, maxSteps := 1000000}) only [NoH, Old, OldL, nilQ, nilA, RechL, ReY, isNew, stepO, XPost, postN, XOk, updN, updU, isEff, avalue, aeff, ASt.eval, ASt.put, ASt.set, ASt.new, Nat.reduceDiv, Nat.reduceAdd, Int.reduceToNat, absV, absC, scalar, alen, acap, conc, flats, live, blkOf, aload, rd, part?, afieldAddr, afield, aindexAddr, cellsOf, afill, places, abuild, optI, asliceV, asliceS, szOk, srcCells, aappend, astore, amakeSlice, abuildSlice, snapL, mapO, treeL, AVal.tree, AVal.flatT, isFlat, ares, isFz, afroz, afrozB, lookupA, lookupH, tops, if_true, if_false, reduceCtorEq, forall_const, ite_true, ite_false, implies_true, walkS, tabS, Try.results66, klt', g1', g2, t1, t2]
      simp only [rasV, ints, lstC, g1', g2]
end Go.Proofs.Ytdbongnhdlbplaa
