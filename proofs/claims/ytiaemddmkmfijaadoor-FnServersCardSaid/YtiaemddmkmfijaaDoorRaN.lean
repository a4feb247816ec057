/-
  OWN WORK: the weak cells.
-/
import Derived.Test.YtiaemddmkmfijaaDoorRaM
namespace Go.Proofs.YtiaemddmkmfijaaDoor
open Go Go.Own Go.Proofs
set_option maxHeartbeats 4000000
set_option maxRecDepth 20000
set_option linter.unusedSimpArgs false
theorem den_ValidLevelR (x : Int) : Den Tryd.prog 76 [.i x] (.b (bp (-300000 ≤ x ∧ x ≤ 300000))) := by
  refine den_of_awp Tryd.func76 rfl (by kernel_rfl) (Nat.le_of_ble_eq_true rfl) (by simp only [treeL, AVal.tree, treeL_i, treeL_ints, treeL_u8, treeL_append, Bool.and_self, Bool.and_true, Bool.true_and]) (by first | rfl | simp only [treeL, AVal.tree, treeL_i, treeL_ints, treeL_u8, treeL_append, Bool.and_self, Bool.and_true, Bool.true_and]) mixed (by kernel_rfl) fun hl => ?_
  simp only [lensL, lens, lensL_i, lensL_mapC, maxI, and_true, true_and] at hl
  rw [Tryd.ntmps76]
  refine ex_start ?_
  simp (config := { maxSteps := 1000000 }) +decide only [NoH, Old, OldL, nilQ, nilA, asgn, nz, RechL, ReY, isNew, stepO, XPost, postN, XOk, updN, updU, isEff, avalue, aeff, ASt.eval, ASt.put, ASt.set, ASt.new, Nat.reduceDiv, Nat.reduceAdd, Int.reduceToNat, absV, absC, scalar, alen, acap, conc, flats, live, blkOf, aload, rd, part?, afieldAddr, afield, aindexAddr, cellsOf, afill, places, abuild, optI, asliceV, asliceS, szOk, srcCells, aappend, acopy, astore, amakeSlice, abuildSlice, snapL, mapO, treeL, AVal.tree, AVal.flatT, isFlat, ares, isFz, afroz, afrozB, lookupA, lookupH, tops, if_true, if_false, reduceCtorEq, forall_const, ite_true, ite_false, implies_true, walkS, tabS, Tryd.results76]
  refine callK (den_within _ _ _) (by first | exact .inl rfl | exact .inr rfl) ?_
  simp (config := { maxSteps := 1000000 }) +decide only [NoH, Old, OldL, nilQ, nilA, asgn, nz, RechL, ReY, isNew, stepO, XPost, postN, XOk, updN, updU, isEff, avalue, aeff, ASt.eval, ASt.put, ASt.set, ASt.new, Nat.reduceDiv, Nat.reduceAdd, Int.reduceToNat, absV, absC, scalar, alen, acap, conc, flats, live, blkOf, aload, rd, part?, afieldAddr, afield, aindexAddr, cellsOf, afill, places, abuild, optI, asliceV, asliceS, szOk, srcCells, aappend, acopy, astore, amakeSlice, abuildSlice, snapL, mapO, treeL, AVal.tree, AVal.flatT, isFlat, ares, isFz, afroz, afrozB, lookupA, lookupH, tops, if_true, if_false, reduceCtorEq, forall_const, ite_true, ite_false, implies_true, walkS, tabS, Tryd.results76]
def weakK (sv lv : List Int) (lim : Int) : Nat → List Int
  | 0 => []
  | k + 1 => if sv.getD k 0 < 0 ∨ lv.getD k 0 < lim then weakK sv lv lim k ++ [(k : Int)] else weakK sv lv lim k
section
variable {sv lv : List Int} {lim : Int} {k : Nat}
theorem weakK_yes (h1 : k < sv.length) (h2 : k < lv.length) (h : sv[k] < 0 ∨ lv[k] < lim) : weakK sv lv lim (k + 1) = weakK sv lv lim k ++ [(k : Int)] := by
  show (if _ then _ else _) = _
  rw [if_pos (by simpa [List.getD, h1, h2] using h)]
theorem weakK_no (h1 : k < sv.length) (h2 : k < lv.length) (h : ¬ (sv[k] < 0 ∨ lv[k] < lim)) : weakK sv lv lim (k + 1) = weakK sv lv lim k := by
  show (if _ then _ else _) = _
  rw [if_neg (by simpa [List.getD, h1, h2] using h)]
end
theorem weakK_le (sv lv : List Int) (lim : Int) : ∀ k, (weakK sv lv lim k).length ≤ k
  | 0 => Nat.le_refl _
  | k + 1 => by
    have := weakK_le sv lv lim k
    unfold weakK
    split
    · simp; omega
    · omega
def LevOk (x : Int) : Prop := -300000 ≤ x ∧ x ≤ 300000
noncomputable def weakL (s w h : Int) (sv lv : List Int) (lim : Int) : List Int := if bp (OkRas s w h sv lv ∧ LevOk lim) then weakK sv lv lim lv.length else []
noncomputable def weakC (s w h : Int) (sv lv : List Int) (lim : Int) : Int := if bp (OkRas s w h sv lv) then (if bp (LevOk lim) then 0 else 2) else 1
section
variable {s w h : Int} {sv lv : List Int} {lim : Int}
theorem weak_yes (h1 : OkRas s w h sv lv) (h2 : LevOk lim) : weakL s w h sv lv lim = weakK sv lv lim lv.length ∧ weakC s w h sv lv lim = 0 := by
  unfold weakL weakC
  rw [if_pos (by rw [bp_true]; exact ⟨h1, h2⟩), if_pos (by rw [bp_true]; exact h1), if_pos (by rw [bp_true]; exact h2)]
  exact ⟨rfl, rfl⟩
theorem weak_bad (h1 : OkRas s w h sv lv) (h2 : ¬ LevOk lim) : weakL s w h sv lv lim = [] ∧ weakC s w h sv lv lim = 2 := by
  unfold weakL weakC
  rw [if_neg (by rw [bp_true]; exact fun h => h2 h.2), if_pos (by rw [bp_true]; exact h1), if_neg (by rw [bp_true]; exact h2)]
  exact ⟨rfl, rfl⟩
theorem weak_no (h1 : ¬ OkRas s w h sv lv) : weakL s w h sv lv lim = [] ∧ weakC s w h sv lv lim = 1 := by
  unfold weakL weakC
  rw [if_neg (by rw [bp_true]; exact fun h => h1 h.1), if_neg (by rw [bp_true]; exact h1)]
  exact ⟨rfl, rfl⟩
end
end Go.Proofs.YtiaemddmkmfijaaDoor
