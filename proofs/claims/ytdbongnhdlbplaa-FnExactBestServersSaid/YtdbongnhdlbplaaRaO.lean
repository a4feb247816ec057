/-
  OWN WORK: the stronger one of two rasters.
-/
import Derived.Test.YtdbongnhdlbplaaRaE
import Derived.Test.YtdbongnhdlbplaaRaM
namespace Go.Proofs.Ytdbongnhdlbplaa
open Go Go.Own Go.Proofs
set_option maxHeartbeats 4000000
set_option maxRecDepth 20000
set_option linter.unusedSimpArgs false
theorem den_sameSize' (s w h : Int) (sv lv : List Int) (s' w' h' : Int) (sv' lv' : List Int) : Den Try.prog 61 [rasV s w h sv lv, rasV s' w' h' sv' lv'] (.b (bp (s = s' ∧ w = w' ∧ h = h'))) := by
  refine den_of_awp Try.func61 rfl (by kernel_rfl) (Nat.le_of_ble_eq_true rfl) (by simp only [treeL, AVal.tree, treeL_i, treeL_ints, treeL_append, Bool.and_self, Bool.and_true, Bool.true_and]) (by first | rfl | simp only [treeL, AVal.tree, treeL_i, treeL_ints, treeL_append, Bool.and_self, Bool.and_true, Bool.true_and]) mixed (by kernel_rfl) fun hl => ?_
  simp only [lensL, lens, lensL_i, lensL_mapC, maxI, and_true, true_and] at hl
  rw [Try.ntmps61]
  refine ex_start ?_
  by_cases h1 : s = s'
  · by_cases h2 : w = w'
    · by_cases h3 : h = h' <;> simp (config := {decide := true, maxSteps := 1000000}) only [NoH, Old, OldL, nilQ, nilA, RechL, ReY, isNew, stepO, XPost, postN, XOk, updN, updU, isEff, avalue, aeff, ASt.eval, ASt.put, ASt.set, ASt.new, Nat.reduceDiv, Nat.reduceAdd, Int.reduceToNat, absV, absC, scalar, alen, acap, conc, flats, live, blkOf, aload, rd, part?, afieldAddr, afield, aindexAddr, cellsOf, afill, places, abuild, optI, asliceV, asliceS, szOk, srcCells, aappend, astore, amakeSlice, abuildSlice, snapL, mapO, treeL, AVal.tree, AVal.flatT, isFlat, ares, isFz, afroz, afrozB, lookupA, lookupH, tops, if_true, if_false, reduceCtorEq, forall_const, ite_true, ite_false, implies_true, walkS, tabS, Try.results61, h1, h2, h3]
    · simp (config := {decide := true, maxSteps := 1000000}) only [NoH, Old, OldL, nilQ, nilA, RechL, ReY, isNew, stepO, XPost, postN, XOk, updN, updU, isEff, avalue, aeff, ASt.eval, ASt.put, ASt.set, ASt.new, Nat.reduceDiv, Nat.reduceAdd, Int.reduceToNat, absV, absC, scalar, alen, acap, conc, flats, live, blkOf, aload, rd, part?, afieldAddr, afield, aindexAddr, cellsOf, afill, places, abuild, optI, asliceV, asliceS, szOk, srcCells, aappend, astore, amakeSlice, abuildSlice, snapL, mapO, treeL, AVal.tree, AVal.flatT, isFlat, ares, isFz, afroz, afrozB, lookupA, lookupH, tops, if_true, if_false, reduceCtorEq, forall_const, ite_true, ite_false, implies_true, walkS, tabS, Try.results61, h1, h2]
  · simp (config := {decide := true, maxSteps := 1000000}) only [NoH, Old, OldL, nilQ, nilA, RechL, ReY, isNew, stepO, XPost, postN, XOk, updN, updU, isEff, avalue, aeff, ASt.eval, ASt.put, ASt.set, ASt.new, Nat.reduceDiv, Nat.reduceAdd, Int.reduceToNat, absV, absC, scalar, alen, acap, conc, flats, live, blkOf, aload, rd, part?, afieldAddr, afield, aindexAddr, cellsOf, afill, places, abuild, optI, asliceV, asliceS, szOk, srcCells, aappend, astore, amakeSlice, abuildSlice, snapL, mapO, treeL, AVal.tree, AVal.flatT, isFlat, ares, isFz, afroz, afrozB, lookupA, lookupH, tops, if_true, if_false, reduceCtorEq, forall_const, ite_true, ite_false, implies_true, walkS, tabS, Try.results61, h1]
/-- the first ones of a row taken from another one, where that one is stronger -/
def mgK (a b la lb : List Int) (k : Nat) : List Int := (List.range a.length).map fun i => if i < k ∧ la.getD i 0 < lb.getD i 0 then b.getD i 0 else a.getD i 0
section
variable {a b la lb : List Int} {k : Nat}
theorem mgK_length : (mgK a b la lb k).length = a.length := by simp [mgK]
theorem mgK_get {i : Nat} (h : i < a.length) : (mgK a b la lb k)[i]'(by rw [mgK_length]; exact h) = if i < k ∧ la.getD i 0 < lb.getD i 0 then b.getD i 0 else a[i] := by
  simp [mgK, List.getD, h]
  rfl
theorem mgK_zero : mgK a b la lb 0 = a := by
  apply List.ext_getElem
  · exact mgK_length
  · intro i h1 h2
    rw [mgK_get h2, if_neg (by omega)]
theorem mgK_yes (h : la.getD k 0 < lb.getD k 0) : (mgK a b la lb k).set k (b.getD k 0) = mgK a b la lb (k + 1) := by
  apply List.ext_getElem
  · simp [mgK_length]
  · intro i h1 h2
    have hi : i < a.length := by rw [mgK_length] at h2; exact h2
    rw [List.getElem_set, mgK_get hi, mgK_get hi]
    by_cases e : k = i
    · subst e
      rw [if_pos rfl, if_pos ⟨by omega, h⟩]
    · rw [if_neg e]
      by_cases c : i < k
      · simp only [c, show i < k + 1 by omega, true_and]
      · rw [if_neg (by omega), if_neg (by omega)]
theorem mgK_no (h : ¬ la.getD k 0 < lb.getD k 0) : mgK a b la lb (k + 1) = mgK a b la lb k := by
  apply List.ext_getElem
  · simp [mgK_length]
  · intro i h1 h2
    have hi : i < a.length := by rw [mgK_length] at h2; exact h2
    rw [mgK_get hi, mgK_get hi]
    by_cases e : i = k
    · subst e
      rw [if_neg (fun h2 => h h2.2), if_neg (fun h2 => h h2.2)]
    · by_cases c : i < k
      · simp only [c, show i < k + 1 by omega, true_and]
      · rw [if_neg (by omega), if_neg (by omega)]
theorem mgK_at (h : k < a.length) : (mgK a b la lb k)[k]'(by rw [mgK_length]; exact h) = a[k] := by rw [mgK_get h, if_neg (by omega)]
end
structure Rst where
  s : Int
  w : Int
  h : Int
  sv : List Int
  lv : List Int
def r0 : Rst := ⟨0, 0, 0, [], []⟩
noncomputable def mgR (s w h : Int) (sv lv : List Int) (s' w' h' : Int) (sv' lv' : List Int) : Rst := if bp (OkRas s w h sv lv ∧ OkRas s' w' h' sv' lv' ∧ (s = s' ∧ w = w' ∧ h = h')) then ⟨s, w, h, mgK sv sv' lv lv' lv.length, mgK lv lv' lv lv' lv.length⟩ else r0
noncomputable def mgC (s w h : Int) (sv lv : List Int) (s' w' h' : Int) (sv' lv' : List Int) : Int := if bp (OkRas s w h sv lv ∧ OkRas s' w' h' sv' lv') then (if bp (s = s' ∧ w = w' ∧ h = h') then 0 else 6) else 1
section
variable {s w h : Int} {sv lv : List Int} {s' w' h' : Int} {sv' lv' : List Int}
theorem mg_yes (h1 : OkRas s w h sv lv) (h2 : OkRas s' w' h' sv' lv') (h3 : s = s' ∧ w = w' ∧ h = h') : mgR s w h sv lv s' w' h' sv' lv' = ⟨s, w, h, mgK sv sv' lv lv' lv.length, mgK lv lv' lv lv' lv.length⟩ ∧ mgC s w h sv lv s' w' h' sv' lv' = 0 := by
  unfold mgR mgC
  rw [if_pos (by rw [bp_true]; exact ⟨h1, h2, h3⟩), if_pos (by rw [bp_true]; exact ⟨h1, h2⟩), if_pos (by rw [bp_true]; exact h3)]
  exact ⟨rfl, rfl⟩
theorem mg_bad (h1 : OkRas s w h sv lv) (h2 : OkRas s' w' h' sv' lv') (h3 : ¬ (s = s' ∧ w = w' ∧ h = h')) : mgR s w h sv lv s' w' h' sv' lv' = r0 ∧ mgC s w h sv lv s' w' h' sv' lv' = 6 := by
  unfold mgR mgC
  rw [if_neg (by rw [bp_true]; exact fun h => h3 h.2.2), if_pos (by rw [bp_true]; exact ⟨h1, h2⟩), if_neg (by rw [bp_true]; exact h3)]
  exact ⟨rfl, rfl⟩
theorem mg_no (h1 : ¬ (OkRas s w h sv lv ∧ OkRas s' w' h' sv' lv')) : mgR s w h sv lv s' w' h' sv' lv' = r0 ∧ mgC s w h sv lv s' w' h' sv' lv' = 1 := by
  unfold mgR mgC
  rw [if_neg (by rw [bp_true]; exact fun h => h1 ⟨h.1, h.2.1⟩), if_neg (by rw [bp_true]; exact h1)]
  exact ⟨rfl, rfl⟩
end
abbrev rstV (r : Rst) : AVal := rasV r.s r.w r.h r.sv r.lv
abbrev rstX (r : Rst) : XT := rasX r.s r.w r.h r.sv r.lv
theorem getD_at {l : List Int} {k : Nat} (h : k < l.length) : l.getD k 0 = l[k] := by simp [List.getD, h]
theorem den_specMergeRasters (s w h : Int) (sv lv : List Int) (s' w' h' : Int) (sv' lv' : List Int) : Den Try.prog 34 [rasV s w h sv lv, rasV s' w' h' sv' lv'] (.tup [rstV (mgR s w h sv lv s' w' h' sv' lv'), .i (mgC s w h sv lv s' w' h' sv' lv')]) := by
  refine den_of_awpG (ghl [] [2, 3] [(5, 13)]) Try.func34 rfl (by kernel_rfl) (Nat.le_of_ble_eq_true rfl) (by simp only [treeL, AVal.tree, treeL_i, treeL_ints, treeL_append, Bool.and_self, Bool.and_true, Bool.true_and]) (by first | rfl | simp only [treeL, AVal.tree, treeL_i, treeL_ints, treeL_append, Bool.and_self, Bool.and_true, Bool.true_and]) mixed (by kernel_rfl) fun hl => ?_
  simp only [lensL, lens, lensL_i, lensL_mapC, maxI, and_true, true_and] at hl
  rw [Try.ntmps34]
  refine ex_start ?_
  by_cases h1 : OkRas s w h sv lv
  case neg =>
    obtain ⟨e1, e2⟩ := mg_no (s := s) (w := w) (h := h) (sv := sv) (lv := lv) (s' := s') (w' := w') (h' := h') (sv' := sv') (lv' := lv') (fun h => h1 h.1)
    rw [e1, e2]
    simp (config := {decide := true, maxSteps := 1000000}) only [NoH, Old, OldL, nilQ, nilA, RechL, ReY, isNew, stepO, XPost, postN, XOk, updN, updU, isEff, avalue, aeff, ASt.eval, ASt.put, ASt.set, ASt.new, Nat.reduceDiv, Nat.reduceAdd, Int.reduceToNat, absV, absC, scalar, alen, acap, conc, flats, live, blkOf, aload, rd, part?, afieldAddr, afield, aindexAddr, cellsOf, afill, places, abuild, optI, asliceV, asliceS, szOk, srcCells, aappend, astore, amakeSlice, abuildSlice, snapL, mapO, treeL, AVal.tree, AVal.flatT, isFlat, ares, isFz, afroz, afrozB, lookupA, lookupH, tops, if_true, if_false, reduceCtorEq, forall_const, ite_true, ite_false, implies_true, walkS, tabS, Try.results34]
    refine callK (den_l20Ok s w h sv lv) (by first | exact .inl rfl | exact .inr rfl) ?_
    simp (config := {decide := true, maxSteps := 1000000}) only [NoH, Old, OldL, nilQ, nilA, RechL, ReY, isNew, stepO, XPost, postN, XOk, updN, updU, isEff, avalue, aeff, ASt.eval, ASt.put, ASt.set, ASt.new, Nat.reduceDiv, Nat.reduceAdd, Int.reduceToNat, absV, absC, scalar, alen, acap, conc, flats, live, blkOf, aload, rd, part?, afieldAddr, afield, aindexAddr, cellsOf, afill, places, abuild, optI, asliceV, asliceS, szOk, srcCells, aappend, astore, amakeSlice, abuildSlice, snapL, mapO, treeL, AVal.tree, AVal.flatT, isFlat, ares, isFz, afroz, afrozB, lookupA, lookupH, tops, if_true, if_false, reduceCtorEq, forall_const, ite_true, ite_false, implies_true, walkS, tabS, Try.results34, eq_false h1, r0, mapC_nil]
    rfl
  simp (config := {decide := true, maxSteps := 1000000}) only [NoH, Old, OldL, nilQ, nilA, RechL, ReY, isNew, stepO, XPost, postN, XOk, updN, updU, isEff, avalue, aeff, ASt.eval, ASt.put, ASt.set, ASt.new, Nat.reduceDiv, Nat.reduceAdd, Int.reduceToNat, absV, absC, scalar, alen, acap, conc, flats, live, blkOf, aload, rd, part?, afieldAddr, afield, aindexAddr, cellsOf, afill, places, abuild, optI, asliceV, asliceS, szOk, srcCells, aappend, astore, amakeSlice, abuildSlice, snapL, mapO, treeL, AVal.tree, AVal.flatT, isFlat, ares, isFz, afroz, afrozB, lookupA, lookupH, tops, if_true, if_false, reduceCtorEq, forall_const, ite_true, ite_false, implies_true, walkS, tabS, Try.results34]
  refine callK (den_l20Ok s w h sv lv) (by first | exact .inl rfl | exact .inr rfl) ?_
  simp (config := {decide := true, maxSteps := 1000000}) only [NoH, Old, OldL, nilQ, nilA, RechL, ReY, isNew, stepO, XPost, postN, XOk, updN, updU, isEff, avalue, aeff, ASt.eval, ASt.put, ASt.set, ASt.new, Nat.reduceDiv, Nat.reduceAdd, Int.reduceToNat, absV, absC, scalar, alen, acap, conc, flats, live, blkOf, aload, rd, part?, afieldAddr, afield, aindexAddr, cellsOf, afill, places, abuild, optI, asliceV, asliceS, szOk, srcCells, aappend, astore, amakeSlice, abuildSlice, snapL, mapO, treeL, AVal.tree, AVal.flatT, isFlat, ares, isFz, afroz, afrozB, lookupA, lookupH, tops, if_true, if_false, reduceCtorEq, forall_const, ite_true, ite_false, implies_true, walkS, tabS, Try.results34, eq_true h1]
  refine callK (den_l20Ok s' w' h' sv' lv') (by first | exact .inl rfl | exact .inr rfl) ?_
  by_cases h2 : OkRas s' w' h' sv' lv'
  case neg =>
    obtain ⟨e1, e2⟩ := mg_no (s := s) (w := w) (h := h) (sv := sv) (lv := lv) (s' := s') (w' := w') (h' := h') (sv' := sv') (lv' := lv') (fun h => h2 h.2)
    rw [e1, e2]
    simp (config := {decide := true, maxSteps := 1000000}) only [NoH, Old, OldL, nilQ, nilA, RechL, ReY, isNew, stepO, XPost, postN, XOk, updN, updU, isEff, avalue, aeff, ASt.eval, ASt.put, ASt.set, ASt.new, Nat.reduceDiv, Nat.reduceAdd, Int.reduceToNat, absV, absC, scalar, alen, acap, conc, flats, live, blkOf, aload, rd, part?, afieldAddr, afield, aindexAddr, cellsOf, afill, places, abuild, optI, asliceV, asliceS, szOk, srcCells, aappend, astore, amakeSlice, abuildSlice, snapL, mapO, treeL, AVal.tree, AVal.flatT, isFlat, ares, isFz, afroz, afrozB, lookupA, lookupH, tops, if_true, if_false, reduceCtorEq, forall_const, ite_true, ite_false, implies_true, walkS, tabS, Try.results34, eq_false h2, r0, mapC_nil]
    rfl
  by_cases h3 : s = s' ∧ w = w' ∧ h = h'
  case neg =>
    obtain ⟨e1, e2⟩ := mg_bad h1 h2 h3
    rw [e1, e2]
    by_cases c1 : s = s'
    · by_cases c2 : w = w'
      · have c3 : ¬ h = h' := fun c3 => h3 ⟨c1, c2, c3⟩
        simp (config := {decide := true, maxSteps := 1000000}) only [NoH, Old, OldL, nilQ, nilA, RechL, ReY, isNew, stepO, XPost, postN, XOk, updN, updU, isEff, avalue, aeff, ASt.eval, ASt.put, ASt.set, ASt.new, Nat.reduceDiv, Nat.reduceAdd, Int.reduceToNat, absV, absC, scalar, alen, acap, conc, flats, live, blkOf, aload, rd, part?, afieldAddr, afield, aindexAddr, cellsOf, afill, places, abuild, optI, asliceV, asliceS, szOk, srcCells, aappend, astore, amakeSlice, abuildSlice, snapL, mapO, treeL, AVal.tree, AVal.flatT, isFlat, ares, isFz, afroz, afrozB, lookupA, lookupH, tops, if_true, if_false, reduceCtorEq, forall_const, ite_true, ite_false, implies_true, walkS, tabS, Try.results34, eq_true h2, eq_true c1, eq_true c2, eq_false c3, r0, mapC_nil]
        rfl
      · simp (config := {decide := true, maxSteps := 1000000}) only [NoH, Old, OldL, nilQ, nilA, RechL, ReY, isNew, stepO, XPost, postN, XOk, updN, updU, isEff, avalue, aeff, ASt.eval, ASt.put, ASt.set, ASt.new, Nat.reduceDiv, Nat.reduceAdd, Int.reduceToNat, absV, absC, scalar, alen, acap, conc, flats, live, blkOf, aload, rd, part?, afieldAddr, afield, aindexAddr, cellsOf, afill, places, abuild, optI, asliceV, asliceS, szOk, srcCells, aappend, astore, amakeSlice, abuildSlice, snapL, mapO, treeL, AVal.tree, AVal.flatT, isFlat, ares, isFz, afroz, afrozB, lookupA, lookupH, tops, if_true, if_false, reduceCtorEq, forall_const, ite_true, ite_false, implies_true, walkS, tabS, Try.results34, eq_true h2, eq_true c1, eq_false c2, r0, mapC_nil]
        rfl
    · simp (config := {decide := true, maxSteps := 1000000}) only [NoH, Old, OldL, nilQ, nilA, RechL, ReY, isNew, stepO, XPost, postN, XOk, updN, updU, isEff, avalue, aeff, ASt.eval, ASt.put, ASt.set, ASt.new, Nat.reduceDiv, Nat.reduceAdd, Int.reduceToNat, absV, absC, scalar, alen, acap, conc, flats, live, blkOf, aload, rd, part?, afieldAddr, afield, aindexAddr, cellsOf, afill, places, abuild, optI, asliceV, asliceS, szOk, srcCells, aappend, astore, amakeSlice, abuildSlice, snapL, mapO, treeL, AVal.tree, AVal.flatT, isFlat, ares, isFz, afroz, afrozB, lookupA, lookupH, tops, if_true, if_false, reduceCtorEq, forall_const, ite_true, ite_false, implies_true, walkS, tabS, Try.results34, eq_true h2, eq_false c1, r0, mapC_nil]
      rfl
  obtain ⟨e1, e2⟩ := mg_yes h1 h2 h3
  rw [e1, e2]
  obtain ⟨c1, c2, c3⟩ := h3
  subst c1; subst c2; subst c3
  simp (config := {decide := true, maxSteps := 1000000}) only [NoH, Old, OldL, nilQ, nilA, RechL, ReY, isNew, stepO, XPost, postN, XOk, updN, updU, isEff, avalue, aeff, ASt.eval, ASt.put, ASt.set, ASt.new, Nat.reduceDiv, Nat.reduceAdd, Int.reduceToNat, absV, absC, scalar, alen, acap, conc, flats, live, blkOf, aload, rd, part?, afieldAddr, afield, aindexAddr, cellsOf, afill, places, abuild, optI, asliceV, asliceS, szOk, srcCells, aappend, astore, amakeSlice, abuildSlice, snapL, mapO, treeL, AVal.tree, AVal.flatT, isFlat, ares, isFz, afroz, afrozB, lookupA, lookupH, tops, if_true, if_false, reduceCtorEq, forall_const, ite_true, ite_false, implies_true, walkS, tabS, Try.results34, eq_true h2]
  refine ex_late (ka := 13) rfl (by kernel_rfl) ?_
  simp (config := {decide := true, maxSteps := 1000000}) only [NoH, Old, OldL, nilQ, nilA, RechL, ReY, isNew, stepO, XPost, postN, XOk, updN, updU, isEff, avalue, aeff, ASt.eval, ASt.put, ASt.set, ASt.new, Nat.reduceDiv, Nat.reduceAdd, Int.reduceToNat, absV, absC, scalar, alen, acap, conc, flats, live, blkOf, aload, rd, part?, afieldAddr, afield, aindexAddr, cellsOf, afill, places, abuild, optI, asliceV, asliceS, szOk, srcCells, aappend, astore, amakeSlice, abuildSlice, snapL, mapO, treeL, AVal.tree, AVal.flatT, isFlat, ares, isFz, afroz, afrozB, lookupA, lookupH, tops, if_true, if_false, reduceCtorEq, forall_const, ite_true, ite_false, implies_true, walkS, tabS, Try.results34, lateOps, lateL, late2, qtO, P0, List.set_cons_succ, List.set_cons_zero]
  have hl1 := h1.2.2.1
  have hl2 := h2.2.2.1
  have hb1 := (ok_pos h1).2
  have hq1 := h1.2.1
  have hq2 := h2.2.1
  have hll : lv'.length = lv.length := by omega
  have hls : sv.length = lv.length := by omega
  have hls' : sv'.length = lv.length := by omega
  refine callX (denx_l00Own sv (by omega)) (by simp (config := {decide := true, maxSteps := 1000000}) only [NoH, Old, OldL, nilQ, nilA, RechL, ReY, isNew, stepO, XPost, postN, XOk, updN, updU, isEff, avalue, aeff, ASt.eval, ASt.put, ASt.set, ASt.new, Nat.reduceDiv, Nat.reduceAdd, Int.reduceToNat, absV, absC, scalar, alen, acap, conc, flats, live, blkOf, aload, rd, part?, afieldAddr, afield, aindexAddr, cellsOf, afill, places, abuild, optI, asliceV, asliceS, szOk, srcCells, aappend, astore, amakeSlice, abuildSlice, snapL, mapO, treeL, AVal.tree, AVal.flatT, isFlat, ares, isFz, afroz, afrozB, lookupA, lookupH, tops, if_true, if_false, reduceCtorEq, forall_const, ite_true, ite_false, implies_true, walkS, tabS, Try.results34]) ?_
  simp (config := {decide := true, maxSteps := 1000000}) only [NoH, Old, OldL, nilQ, nilA, RechL, ReY, isNew, stepO, XPost, postN, XOk, updN, updU, isEff, avalue, aeff, ASt.eval, ASt.put, ASt.set, ASt.new, Nat.reduceDiv, Nat.reduceAdd, Int.reduceToNat, absV, absC, scalar, alen, acap, conc, flats, live, blkOf, aload, rd, part?, afieldAddr, afield, aindexAddr, cellsOf, afill, places, abuild, optI, asliceV, asliceS, szOk, srcCells, aappend, astore, amakeSlice, abuildSlice, snapL, mapO, treeL, AVal.tree, AVal.flatT, isFlat, ares, isFz, afroz, afrozB, lookupA, lookupH, tops, if_true, if_false, reduceCtorEq, forall_const, ite_true, ite_false, implies_true, walkS, tabS, Try.results34]
  refine callX (denx_l00Own lv (by omega)) (by simp (config := {decide := true, maxSteps := 1000000}) only [NoH, Old, OldL, nilQ, nilA, RechL, ReY, isNew, stepO, XPost, postN, XOk, updN, updU, isEff, avalue, aeff, ASt.eval, ASt.put, ASt.set, ASt.new, Nat.reduceDiv, Nat.reduceAdd, Int.reduceToNat, absV, absC, scalar, alen, acap, conc, flats, live, blkOf, aload, rd, part?, afieldAddr, afield, aindexAddr, cellsOf, afill, places, abuild, optI, asliceV, asliceS, szOk, srcCells, aappend, astore, amakeSlice, abuildSlice, snapL, mapO, treeL, AVal.tree, AVal.flatT, isFlat, ares, isFz, afroz, afrozB, lookupA, lookupH, tops, if_true, if_false, reduceCtorEq, forall_const, ite_true, ite_false, implies_true, walkS, tabS, Try.results34]) ?_
  simp (config := {decide := true, maxSteps := 1000000}) only [NoH, Old, OldL, nilQ, nilA, RechL, ReY, isNew, stepO, XPost, postN, XOk, updN, updU, isEff, avalue, aeff, ASt.eval, ASt.put, ASt.set, ASt.new, Nat.reduceDiv, Nat.reduceAdd, Int.reduceToNat, absV, absC, scalar, alen, acap, conc, flats, live, blkOf, aload, rd, part?, afieldAddr, afield, aindexAddr, cellsOf, afill, places, abuild, optI, asliceV, asliceS, szOk, srcCells, aappend, astore, amakeSlice, abuildSlice, snapL, mapO, treeL, AVal.tree, AVal.flatT, isFlat, ares, isFz, afroz, afrozB, lookupA, lookupH, tops, if_true, if_false, reduceCtorEq, forall_const, ite_true, ite_false, implies_true, walkS, tabS, Try.results34]
  refine ex_loop (fun k : {k : Nat // k ≤ lv.length} => mkG (ghl [] [2, 3] [(5, 13)]) [(2, rasP s w h sv lv), (3, rasP s w h sv' lv'), (4, .ptr 4 0 0), (6, .ptr 6 3 0), (7, .i k)] [(4, ⟨0, 5, [.i 0, .i 0, .i 0, .nl, .nl]⟩), (6, ⟨3, 5, [.i s, .i w, .i h, .own 43 1 0 sv.length, .own 46 2 0 lv.length]⟩), (43, ⟨1, 1, mapC AVal.i (mgK sv sv' lv lv' k)⟩), (46, ⟨2, 1, mapC AVal.i (mgK lv lv' lv lv' k)⟩)] 4 85) (fun k => lv.length - k) ⟨0, by simp⟩ ?_ ?_
  · refine weak_mk rfl (by first | exact Nat.le_refl _ | (simp only [mk_gen]; omega)) ?_ ?_ <;> simp (config := {decide := true}) only [w_lookup_nil, w_lookup_cons, ch_ch, ch_lit, lit_ch, wkT, wkH, wkB, WVL, WV_refl', Int.natCast_zero, Int.natCast_add, Int.natCast_one, Nat.sub_self, Nat.sub_zero, List.replicate_zero, List.take_zero, List.nil_append, List.append_nil, fillC_zero, Nat.reduceDiv, Nat.reduceAdd, upd_bk, bk_at, getB_zero, getB_succ, modB_zero, modB_succ, rows_lit, repB_zero, repB_succ, List.length_cons, List.length_nil, upd_upd_same, upd_apply, mk_tmp, mk_heap, mk_gen, lookupA, lookupH, List.getD_cons_zero, List.getD_cons_succ, init_two, tops, Bool.true_and, and_self, and_true, true_and, true_or, if_true, if_false, ite_true, ite_false, reduceCtorEq, reduceIte, mgK_zero]
  · rintro ⟨k, hk⟩
    have g1 : (mgK sv sv' lv lv' k).length = lv.length := by rw [mgK_length, hls]
    have g2 : (mgK lv lv' lv lv' k).length = lv.length := mgK_length
    by_cases klt : k < lv.length
    · have hw : IntKind.i64.wrap ((k : Int) + 1) = ((k + 1 : Nat) : Int) := wrap64 (by omega) (by omega)
      have k1 : k < sv.length := by omega
      have k2 : k < sv'.length := by omega
      have k3 : k < lv'.length := by omega
      have hm : lv.length - (k + 1) < lv.length - k := by omega
      by_cases hc : lv[k] < lv'[k]
      · have hc' : lv.getD k 0 < lv'.getD k 0 := by rw [getD_at klt, getD_at k3]; exact hc
        have m1 := mgK_yes (a := sv) (b := sv') hc'
        have m2 := mgK_yes (a := lv) (b := lv') hc'
        rw [getD_at k2] at m1
        rw [getD_at k3] at m2
        simp (config := {decide := true, maxSteps := 1000000}) only [NoH, Old, OldL, nilQ, nilA, RechL, ReY, isNew, stepO, XPost, postN, XOk, updN, updU, isEff, avalue, aeff, ASt.eval, ASt.put, ASt.set, ASt.new, Nat.reduceDiv, Nat.reduceAdd, Int.reduceToNat, absV, absC, scalar, alen, acap, conc, flats, live, blkOf, aload, rd, part?, afieldAddr, afield, aindexAddr, cellsOf, afill, places, abuild, optI, asliceV, asliceS, szOk, srcCells, aappend, astore, amakeSlice, abuildSlice, snapL, mapO, treeL, AVal.tree, AVal.flatT, isFlat, ares, isFz, afroz, afrozB, lookupA, lookupH, tops, if_true, if_false, reduceCtorEq, forall_const, ite_true, ite_false, implies_true, walkS, tabS, Try.results34, hw, klt, k1, k2, k3, eq_true hc, g1, g2, hls, hls', hll, m1, m2, mapC_set]
        refine ⟨⟨k + 1, klt⟩, ?_, hm⟩
        refine weak_mk rfl (by first | exact Nat.le_refl _ | (simp only [mk_gen]; omega)) ?_ ?_ <;> simp (config := {decide := true}) only [w_lookup_nil, w_lookup_cons, ch_ch, ch_lit, lit_ch, wkT, wkH, wkB, WVL, WV_refl', Int.natCast_zero, Int.natCast_add, Int.natCast_one, Nat.sub_self, Nat.sub_zero, List.replicate_zero, List.take_zero, List.nil_append, List.append_nil, fillC_zero, Nat.reduceDiv, Nat.reduceAdd, upd_bk, bk_at, getB_zero, getB_succ, modB_zero, modB_succ, rows_lit, repB_zero, repB_succ, List.length_cons, List.length_nil, upd_upd_same, upd_apply, mk_tmp, mk_heap, mk_gen, lookupA, lookupH, List.getD_cons_zero, List.getD_cons_succ, init_two, tops, Bool.true_and, and_self, and_true, true_and, true_or, if_true, if_false, ite_true, ite_false, reduceCtorEq, reduceIte, hls]
      · have hc' : ¬ lv.getD k 0 < lv'.getD k 0 := by rw [getD_at klt, getD_at k3]; exact hc
        have m1 := mgK_no (a := sv) (b := sv') hc'
        have m2 := mgK_no (a := lv) (b := lv') hc'
        simp (config := {decide := true, maxSteps := 1000000}) only [NoH, Old, OldL, nilQ, nilA, RechL, ReY, isNew, stepO, XPost, postN, XOk, updN, updU, isEff, avalue, aeff, ASt.eval, ASt.put, ASt.set, ASt.new, Nat.reduceDiv, Nat.reduceAdd, Int.reduceToNat, absV, absC, scalar, alen, acap, conc, flats, live, blkOf, aload, rd, part?, afieldAddr, afield, aindexAddr, cellsOf, afill, places, abuild, optI, asliceV, asliceS, szOk, srcCells, aappend, astore, amakeSlice, abuildSlice, snapL, mapO, treeL, AVal.tree, AVal.flatT, isFlat, ares, isFz, afroz, afrozB, lookupA, lookupH, tops, if_true, if_false, reduceCtorEq, forall_const, ite_true, ite_false, implies_true, walkS, tabS, Try.results34, hw, klt, k1, k2, k3, eq_false hc, g1, g2, hls, hls', hll]
        refine ⟨⟨k + 1, klt⟩, ?_, hm⟩
        refine weak_mk rfl (by first | exact Nat.le_refl _ | (simp only [mk_gen]; omega)) ?_ ?_ <;> simp (config := {decide := true}) only [w_lookup_nil, w_lookup_cons, ch_ch, ch_lit, lit_ch, wkT, wkH, wkB, WVL, WV_refl', Int.natCast_zero, Int.natCast_add, Int.natCast_one, Nat.sub_self, Nat.sub_zero, List.replicate_zero, List.take_zero, List.nil_append, List.append_nil, fillC_zero, Nat.reduceDiv, Nat.reduceAdd, upd_bk, bk_at, getB_zero, getB_succ, modB_zero, modB_succ, rows_lit, repB_zero, repB_succ, List.length_cons, List.length_nil, upd_upd_same, upd_apply, mk_tmp, mk_heap, mk_gen, lookupA, lookupH, List.getD_cons_zero, List.getD_cons_succ, init_two, tops, Bool.true_and, and_self, and_true, true_and, true_or, if_true, if_false, ite_true, ite_false, reduceCtorEq, reduceIte, m1, m2, hls]
    · have e : k = lv.length := by omega
      subst e
      have t1 : List.take lv.length (mgK sv sv' lv lv' lv.length) = mgK sv sv' lv lv' lv.length := List.take_of_length_le (by omega)
      have t2 : List.take lv.length (mgK lv lv' lv lv' lv.length) = mgK lv lv' lv lv' lv.length := List.take_of_length_le (by omega)
      simp (config := {decide := true, maxSteps := 1000000}) only [NoH, Old, OldL, nilQ, nilA, RechL, ReY, isNew, stepO, XPost, postN, XOk, updN, updU, isEff, avalue, aeff, ASt.eval, ASt.put, ASt.set, ASt.new, Nat.reduceDiv, Nat.reduceAdd, Int.reduceToNat, absV, absC, scalar, alen, acap, conc, flats, live, blkOf, aload, rd, part?, afieldAddr, afield, aindexAddr, cellsOf, afill, places, abuild, optI, asliceV, asliceS, szOk, srcCells, aappend, astore, amakeSlice, abuildSlice, snapL, mapO, treeL, AVal.tree, AVal.flatT, isFlat, ares, isFz, afroz, afrozB, lookupA, lookupH, tops, if_true, if_false, reduceCtorEq, forall_const, ite_true, ite_false, implies_true, walkS, tabS, Try.results34, klt, hls, g1, g2, t1, t2]
      simp only [rstV, rasV, ints, lstC, g1, g2]
end Go.Proofs.Ytdbongnhdlbplaa
