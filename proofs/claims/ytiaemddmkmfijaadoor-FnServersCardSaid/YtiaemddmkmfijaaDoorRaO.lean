/-
  OWN WORK: the stronger one of two rasters.
-/
import Derived.Test.YtiaemddmkmfijaaDoorRaE
import Derived.Test.YtiaemddmkmfijaaDoorRaM
namespace Go.Proofs.YtiaemddmkmfijaaDoor
open Go Go.Own Go.Proofs
set_option maxHeartbeats 4000000
set_option maxRecDepth 20000
set_option linter.unusedSimpArgs false
theorem den_sameSize' (s w h : Int) (sv lv : List Int) (s' w' h' : Int) (sv' lv' : List Int) : Den Tryd.prog 71 [rasV s w h sv lv, rasV s' w' h' sv' lv'] (.b (bp (s = s' ∧ w = w' ∧ h = h'))) := by
  refine den_of_awp Tryd.func71 rfl (by kernel_rfl) (Nat.le_of_ble_eq_true rfl) (by simp only [treeL, AVal.tree, treeL_i, treeL_ints, treeL_u8, treeL_append, Bool.and_self, Bool.and_true, Bool.true_and]) (by first | rfl | simp only [treeL, AVal.tree, treeL_i, treeL_ints, treeL_u8, treeL_append, Bool.and_self, Bool.and_true, Bool.true_and]) mixed (by kernel_rfl) fun hl => ?_
  simp only [lensL, lens, lensL_i, lensL_mapC, maxI, and_true, true_and] at hl
  rw [Tryd.ntmps71]
  refine ex_start ?_
  by_cases h1 : s = s'
  · by_cases h2 : w = w'
    · by_cases h3 : h = h' <;> simp (config := { maxSteps := 1000000 }) +decide only [NoH, Old, OldL, nilQ, nilA, asgn, nz, RechL, ReY, isNew, stepO, XPost, postN, XOk, updN, updU, isEff, avalue, aeff, ASt.eval, ASt.put, ASt.set, ASt.new, Nat.reduceDiv, Nat.reduceAdd, Int.reduceToNat, absV, absC, scalar, alen, acap, conc, flats, live, blkOf, aload, rd, part?, afieldAddr, afield, aindexAddr, cellsOf, afill, places, abuild, optI, asliceV, asliceS, szOk, srcCells, aappend, acopy, astore, amakeSlice, abuildSlice, snapL, mapO, treeL, AVal.tree, AVal.flatT, isFlat, ares, isFz, afroz, afrozB, lookupA, lookupH, tops, if_true, if_false, reduceCtorEq, forall_const, ite_true, ite_false, implies_true, walkS, tabS, Tryd.results71, h1, h2, h3]
    · simp (config := { maxSteps := 1000000 }) +decide only [NoH, Old, OldL, nilQ, nilA, asgn, nz, RechL, ReY, isNew, stepO, XPost, postN, XOk, updN, updU, isEff, avalue, aeff, ASt.eval, ASt.put, ASt.set, ASt.new, Nat.reduceDiv, Nat.reduceAdd, Int.reduceToNat, absV, absC, scalar, alen, acap, conc, flats, live, blkOf, aload, rd, part?, afieldAddr, afield, aindexAddr, cellsOf, afill, places, abuild, optI, asliceV, asliceS, szOk, srcCells, aappend, acopy, astore, amakeSlice, abuildSlice, snapL, mapO, treeL, AVal.tree, AVal.flatT, isFlat, ares, isFz, afroz, afrozB, lookupA, lookupH, tops, if_true, if_false, reduceCtorEq, forall_const, ite_true, ite_false, implies_true, walkS, tabS, Tryd.results71, h1, h2]
  · simp (config := { maxSteps := 1000000 }) +decide only [NoH, Old, OldL, nilQ, nilA, asgn, nz, RechL, ReY, isNew, stepO, XPost, postN, XOk, updN, updU, isEff, avalue, aeff, ASt.eval, ASt.put, ASt.set, ASt.new, Nat.reduceDiv, Nat.reduceAdd, Int.reduceToNat, absV, absC, scalar, alen, acap, conc, flats, live, blkOf, aload, rd, part?, afieldAddr, afield, aindexAddr, cellsOf, afill, places, abuild, optI, asliceV, asliceS, szOk, srcCells, aappend, acopy, astore, amakeSlice, abuildSlice, snapL, mapO, treeL, AVal.tree, AVal.flatT, isFlat, ares, isFz, afroz, afrozB, lookupA, lookupH, tops, if_true, if_false, reduceCtorEq, forall_const, ite_true, ite_false, implies_true, walkS, tabS, Tryd.results71, h1]
/-- the first ones of a row taken from another one, where that one is stronger -/
def mgK (a b la lb : List Int) (k : Nat) : List Int := (List.range a.length).map fun i => if i < k ∧ la.getD i 0 < lb.getD i 0 then b.getD i 0 else a.getD i 0
section
variable {a b la lb : List Int} {k : Nat}
theorem mgK_length : (mgK a b la lb k).length = a.length := by simp [mgK]
theorem mgK_get {i : Nat} (h : i < a.length) : (mgK a b la lb k)[i]'(by rw [mgK_length]; exact h) = if i < k ∧ la.getD i 0 < lb.getD i 0 then b.getD i 0 else a[i] := by
  simp [mgK, List.getD, h]
  rfl
theorem mgK_zero : mgK a b la lb 0 = a := by
  apply List.ext_getElem
  · exact mgK_length
  · intro i h1 h2
    rw [mgK_get h2, if_neg (by omega)]
theorem mgK_yes (h : la.getD k 0 < lb.getD k 0) : (mgK a b la lb k).set k (b.getD k 0) = mgK a b la lb (k + 1) := by
  apply List.ext_getElem
  · simp [mgK_length]
  · intro i h1 h2
    have hi : i < a.length := by rw [mgK_length] at h2; exact h2
    rw [List.getElem_set, mgK_get hi, mgK_get hi]
    by_cases e : k = i
    · subst e
      rw [if_pos rfl, if_pos ⟨by omega, h⟩]
    · rw [if_neg e]
      by_cases c : i < k
      · simp only [c, show i < k + 1 by omega, true_and]
      · rw [if_neg (by omega), if_neg (by omega)]
theorem mgK_no (h : ¬ la.getD k 0 < lb.getD k 0) : mgK a b la lb (k + 1) = mgK a b la lb k := by
  apply List.ext_getElem
  · simp [mgK_length]
  · intro i h1 h2
    have hi : i < a.length := by rw [mgK_length] at h2; exact h2
    rw [mgK_get hi, mgK_get hi]
    by_cases e : i = k
    · subst e
      rw [if_neg (fun h2 => h h2.2), if_neg (fun h2 => h h2.2)]
    · by_cases c : i < k
      · simp only [c, show i < k + 1 by omega, true_and]
      · rw [if_neg (by omega), if_neg (by omega)]
theorem mgK_at (h : k < a.length) : (mgK a b la lb k)[k]'(by rw [mgK_length]; exact h) = a[k] := by rw [mgK_get h, if_neg (by omega)]
end
structure Rst where
  s : Int
  w : Int
  h : Int
  sv : List Int
  lv : List Int
def r0 : Rst := ⟨0, 0, 0, [], []⟩
noncomputable def mgR (s w h : Int) (sv lv : List Int) (s' w' h' : Int) (sv' lv' : List Int) : Rst := if bp (OkRas s w h sv lv ∧ OkRas s' w' h' sv' lv' ∧ (s = s' ∧ w = w' ∧ h = h')) then ⟨s, w, h, mgK sv sv' lv lv' lv.length, mgK lv lv' lv lv' lv.length⟩ else r0
noncomputable def mgC (s w h : Int) (sv lv : List Int) (s' w' h' : Int) (sv' lv' : List Int) : Int := if bp (OkRas s w h sv lv ∧ OkRas s' w' h' sv' lv') then (if bp (s = s' ∧ w = w' ∧ h = h') then 0 else 6) else 1
section
variable {s w h : Int} {sv lv : List Int} {s' w' h' : Int} {sv' lv' : List Int}
theorem mg_yes (h1 : OkRas s w h sv lv) (h2 : OkRas s' w' h' sv' lv') (h3 : s = s' ∧ w = w' ∧ h = h') : mgR s w h sv lv s' w' h' sv' lv' = ⟨s, w, h, mgK sv sv' lv lv' lv.length, mgK lv lv' lv lv' lv.length⟩ ∧ mgC s w h sv lv s' w' h' sv' lv' = 0 := by
  unfold mgR mgC
  rw [if_pos (by rw [bp_true]; exact ⟨h1, h2, h3⟩), if_pos (by rw [bp_true]; exact ⟨h1, h2⟩), if_pos (by rw [bp_true]; exact h3)]
  exact ⟨rfl, rfl⟩
theorem mg_bad (h1 : OkRas s w h sv lv) (h2 : OkRas s' w' h' sv' lv') (h3 : ¬ (s = s' ∧ w = w' ∧ h = h')) : mgR s w h sv lv s' w' h' sv' lv' = r0 ∧ mgC s w h sv lv s' w' h' sv' lv' = 6 := by
  unfold mgR mgC
  rw [if_neg (by rw [bp_true]; exact fun h => h3 h.2.2), if_pos (by rw [bp_true]; exact ⟨h1, h2⟩), if_neg (by rw [bp_true]; exact h3)]
  exact ⟨rfl, rfl⟩
theorem mg_no (h1 : ¬ (OkRas s w h sv lv ∧ OkRas s' w' h' sv' lv')) : mgR s w h sv lv s' w' h' sv' lv' = r0 ∧ mgC s w h sv lv s' w' h' sv' lv' = 1 := by
  unfold mgR mgC
  rw [if_neg (by rw [bp_true]; exact fun h => h1 ⟨h.1, h.2.1⟩), if_neg (by rw [bp_true]; exact h1)]
  exact ⟨rfl, rfl⟩
end
abbrev rstV (r : Rst) : AVal := rasV r.s r.w r.h r.sv r.lv
abbrev rstX (r : Rst) : XT := rasX r.s r.w r.h r.sv r.lv
theorem getD_at {l : List Int} {k : Nat} (h : k < l.length) : l.getD k 0 = l[k] := by simp [List.getD, h]
end Go.Proofs.YtiaemddmkmfijaaDoor
