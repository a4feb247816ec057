/-
  OWN WORK: contracts of the changes of rasters.
-/
import Derived.Test.YtiaemddmkmfijaaDoorRaE
namespace Go.Proofs.YtiaemddmkmfijaaDoor
open Go Go.Own Go.Proofs
set_option maxHeartbeats 8000000
set_option maxRecDepth 20000
set_option linter.unusedSimpArgs false
/-- at how many places below k it is so -/
noncomputable def cnt (p : Nat → Prop) : Nat → Int
  | 0 => 0
  | k + 1 => cnt p k + if bp (p k) then 1 else 0
theorem cnt_yes {p : Nat → Prop} {k : Nat} (h : p k) : cnt p (k + 1) = cnt p k + 1 := by
  show cnt p k + _ = _
  rw [if_pos (by rw [bp_true]; exact h)]
theorem cnt_no {p : Nat → Prop} {k : Nat} (h : ¬ p k) : cnt p (k + 1) = cnt p k := by
  show cnt p k + _ = _
  rw [if_neg (by rw [bp_true]; exact h), Int.add_zero]
theorem cnt_le (p : Nat → Prop) : ∀ k : Nat, 0 ≤ cnt p k ∧ cnt p k ≤ k
  | 0 => by simp [cnt]
  | k + 1 => by
    have := cnt_le p k
    unfold cnt
    split <;> omega
theorem cnt_wrap (p : Nat → Prop) (k : Nat) (h : k ≤ 1000000) : IntKind.i64.wrap (cnt p k + 1) = cnt p k + 1 := by
  have := cnt_le p k
  exact wrap64 (by omega) (by omega)
def at2 (a b la lb : List Int) (q : Int → Int → Int → Int → Prop) (i : Nat) : Prop := q (a.getD i 0) (b.getD i 0) (la.getD i 0) (lb.getD i 0)
def qG (a b _ _ : Int) : Prop := ¬ 0 ≤ a ∧ 0 ≤ b
def qL (a b _ _ : Int) : Prop := 0 ≤ a ∧ ¬ 0 ≤ b
def qM (a b _ _ : Int) : Prop := (0 ≤ a ∧ 0 ≤ b) ∧ a ≠ b
def qB (a b c d : Int) : Prop := (0 ≤ a ∧ 0 ≤ b) ∧ c < d
def qW (a b c d : Int) : Prop := (0 ≤ a ∧ 0 ≤ b) ∧ d < c
noncomputable def chg (a b la lb : List Int) (k : Nat) : List AVal := [.i (cnt (at2 a b la lb qG) k), .i (cnt (at2 a b la lb qL) k), .i (cnt (at2 a b la lb qM) k), .i (cnt (at2 a b la lb qB) k), .i (cnt (at2 a b la lb qW) k)]
theorem at2_eq {a b la lb : List Int} {q : Int → Int → Int → Int → Prop} {i : Nat} (h1 : i < a.length) (h2 : i < b.length) (h3 : i < la.length) (h4 : i < lb.length) : at2 a b la lb q i = q a[i] b[i] la[i] lb[i] := by
  simp [at2, List.getD, h1, h2, h3, h4]
noncomputable def cmpV (s w h : Int) (sv lv : List Int) (s' w' h' : Int) (sv' lv' : List Int) : AVal :=
  if bp (OkRas s w h sv lv ∧ OkRas s' w' h' sv' lv') then (if bp (s = s' ∧ w = w' ∧ h = h') then .tup [.agg (chg sv sv' lv lv' sv.length), .i 0] else .tup [.agg [.i 0, .i 0, .i 0, .i 0, .i 0], .i 6]) else .tup [.agg [.i 0, .i 0, .i 0, .i 0, .i 0], .i 1]
section
variable {s w h : Int} {sv lv : List Int} {s' w' h' : Int} {sv' lv' : List Int}
theorem cmpV_yes (h1 : OkRas s w h sv lv) (h2 : OkRas s' w' h' sv' lv') (h3 : s = s' ∧ w = w' ∧ h = h') : cmpV s w h sv lv s' w' h' sv' lv' = .tup [.agg (chg sv sv' lv lv' sv.length), .i 0] := by
  unfold cmpV; rw [if_pos (by rw [bp_true]; exact ⟨h1, h2⟩), if_pos (by rw [bp_true]; exact h3)]
theorem cmpV_bad (h1 : OkRas s w h sv lv) (h2 : OkRas s' w' h' sv' lv') (h3 : ¬ (s = s' ∧ w = w' ∧ h = h')) : cmpV s w h sv lv s' w' h' sv' lv' = .tup [.agg [.i 0, .i 0, .i 0, .i 0, .i 0], .i 6] := by
  unfold cmpV; rw [if_pos (by rw [bp_true]; exact ⟨h1, h2⟩), if_neg (by rw [bp_true]; exact h3)]
theorem cmpV_no (h1 : ¬ (OkRas s w h sv lv ∧ OkRas s' w' h' sv' lv')) : cmpV s w h sv lv s' w' h' sv' lv' = .tup [.agg [.i 0, .i 0, .i 0, .i 0, .i 0], .i 1] := by
  unfold cmpV; rw [if_neg (by rw [bp_true]; exact h1)]
theorem tree_cmpV : (cmpV s w h sv lv s' w' h' sv' lv').tree = true := tree_ite (tree_ite rfl rfl) rfl
end
theorem den_sameSize (s w h : Int) (sv lv : List Int) (s' w' h' : Int) (sv' lv' : List Int) : Den Tryd.prog 71 [rasV s w h sv lv, rasV s' w' h' sv' lv'] (.b (bp (s = s' ∧ w = w' ∧ h = h'))) := by
  refine den_of_awp Tryd.func71 rfl (by kernel_rfl) (Nat.le_of_ble_eq_true rfl) (by simp only [treeL, AVal.tree, treeL_i, treeL_ints, treeL_u8, treeL_append, Bool.and_self, Bool.and_true, Bool.true_and]) (by first | rfl | simp only [treeL, AVal.tree, treeL_i, treeL_ints, treeL_u8, treeL_append, Bool.and_self, Bool.and_true, Bool.true_and]) mixed (by kernel_rfl) fun hl => ?_
  simp only [lensL, lens, lensL_i, lensL_mapC, maxI, and_true, true_and] at hl
  rw [Tryd.ntmps71]
  refine ex_start ?_
  by_cases h1 : s = s'
  · by_cases h2 : w = w'
    · by_cases h3 : h = h' <;> simp (config := { maxSteps := 1000000 }) +decide only [NoH, Old, OldL, nilQ, nilA, asgn, nz, RechL, ReY, isNew, stepO, XPost, postN, XOk, updN, updU, isEff, avalue, aeff, ASt.eval, ASt.put, ASt.set, ASt.new, Nat.reduceDiv, Nat.reduceAdd, Int.reduceToNat, absV, absC, scalar, alen, acap, conc, flats, live, blkOf, aload, rd, part?, afieldAddr, afield, aindexAddr, cellsOf, afill, places, abuild, optI, asliceV, asliceS, szOk, srcCells, aappend, acopy, astore, amakeSlice, abuildSlice, snapL, mapO, treeL, AVal.tree, AVal.flatT, isFlat, ares, isFz, afroz, afrozB, lookupA, lookupH, tops, if_true, if_false, reduceCtorEq, forall_const, ite_true, ite_false, implies_true, walkS, tabS, Tryd.results71, h1, h2, h3]
    · simp (config := { maxSteps := 1000000 }) +decide only [NoH, Old, OldL, nilQ, nilA, asgn, nz, RechL, ReY, isNew, stepO, XPost, postN, XOk, updN, updU, isEff, avalue, aeff, ASt.eval, ASt.put, ASt.set, ASt.new, Nat.reduceDiv, Nat.reduceAdd, Int.reduceToNat, absV, absC, scalar, alen, acap, conc, flats, live, blkOf, aload, rd, part?, afieldAddr, afield, aindexAddr, cellsOf, afill, places, abuild, optI, asliceV, asliceS, szOk, srcCells, aappend, acopy, astore, amakeSlice, abuildSlice, snapL, mapO, treeL, AVal.tree, AVal.flatT, isFlat, ares, isFz, afroz, afrozB, lookupA, lookupH, tops, if_true, if_false, reduceCtorEq, forall_const, ite_true, ite_false, implies_true, walkS, tabS, Tryd.results71, h1, h2]
  · simp (config := { maxSteps := 1000000 }) +decide only [NoH, Old, OldL, nilQ, nilA, asgn, nz, RechL, ReY, isNew, stepO, XPost, postN, XOk, updN, updU, isEff, avalue, aeff, ASt.eval, ASt.put, ASt.set, ASt.new, Nat.reduceDiv, Nat.reduceAdd, Int.reduceToNat, absV, absC, scalar, alen, acap, conc, flats, live, blkOf, aload, rd, part?, afieldAddr, afield, aindexAddr, cellsOf, afill, places, abuild, optI, asliceV, asliceS, szOk, srcCells, aappend, acopy, astore, amakeSlice, abuildSlice, snapL, mapO, treeL, AVal.tree, AVal.flatT, isFlat, ares, isFz, afroz, afrozB, lookupA, lookupH, tops, if_true, if_false, reduceCtorEq, forall_const, ite_true, ite_false, implies_true, walkS, tabS, Tryd.results71, h1]
end Go.Proofs.YtiaemddmkmfijaaDoor
