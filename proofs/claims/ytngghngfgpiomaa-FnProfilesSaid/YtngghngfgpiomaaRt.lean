/-
  OWN WORK: roots of numbers: two searches.
-/
import Derived.Test.YtngghngfgpiomaaLibA
namespace Go.Proofs.Ytngghngfgpiomaa
open Go Go.Own Go.Proofs
set_option maxHeartbeats 4000000
set_option maxRecDepth 20000
set_option linter.unusedSimpArgs false
/-- a root, rounded down -/
def isRt (n : Int) (r : Nat) : Prop := (r : Int) * r ≤ n ∧ n < ((r : Int) + 1) * ((r : Int) + 1)
theorem rt_ex : ∀ n : Nat, ∃ r, isRt n r
  | 0 => ⟨0, by simp, by simp⟩
  | n + 1 => by
    obtain ⟨r, h1, h2⟩ := rt_ex n
    by_cases h : ((r : Int) + 1) * ((r : Int) + 1) ≤ ((n + 1 : Nat) : Int)
    · refine ⟨r + 1, by simpa using h, ?_⟩
      have e : (((r + 1 : Nat) : Int) + 1) * (((r + 1 : Nat) : Int) + 1) = ((r : Int) + 1) * ((r : Int) + 1) + (2 * (r : Int) + 3) := by
        rw [show ((r + 1 : Nat) : Int) = (r : Int) + 1 by omega]
        simp only [Int.mul_add, Int.add_mul]
        omega
      rw [e]
      omega
    · exact ⟨r, by omega, by omega⟩
theorem rt_ex' {n : Int} (h : 0 ≤ n) : ∃ r, isRt n r := by
  obtain ⟨m, rfl⟩ := Int.eq_ofNat_of_zero_le h
  exact rt_ex m
theorem sq_mono {a b : Int} (h0 : 0 ≤ a) (h : a ≤ b) : a * a ≤ b * b := Int.mul_le_mul h h h0 (by omega)
theorem rt_le {n : Int} {r k : Nat} (h : isRt n r) (hk : (k : Int) * k ≤ n) : k ≤ r := by
  rcases Nat.lt_or_ge r k with h1 | h1
  · have := sq_mono (a := (r : Int) + 1) (b := k) (by omega) (by omega)
    have := h.2
    omega
  · exact h1
theorem rt_lt {n : Int} {r k : Nat} (h : isRt n r) (hk : n < (k : Int) * k) : r < k := by
  rcases Nat.lt_or_ge r k with h1 | h1
  · exact h1
  · have := sq_mono (a := (k : Int)) (b := r) (by omega) (by omega)
    have := h.1
    omega
noncomputable def rt (n : Int) : Nat := if h : 0 ≤ n then Classical.choose (rt_ex' h) else 0
theorem rt_is {n : Int} (h : 0 ≤ n) : isRt n (rt n) := by
  unfold rt
  rw [dif_pos h]
  exact Classical.choose_spec (rt_ex' h)
theorem rt_small {n : Int} (h : 0 ≤ n) (h1 : n ≤ 1000000000000) : rt n ≤ 1000000 := by
  have := rt_lt (k := 1000001) (rt_is h) (by omega)
  omega
/-! ### distances -/
noncomputable def dst (x y x' y' : Int) : Int := rt ((x - x') * (x - x') + (y - y') * (y - y'))
def OkPt (x y : Int) : Prop := (0 ≤ x ∧ x ≤ 200000) ∧ (0 ≤ y ∧ y ≤ 200000)
theorem sq_le {a b : Int} (h1 : -b ≤ a) (h2 : a ≤ b) : 0 ≤ a * a ∧ a * a ≤ b * b := by
  rcases Int.le_total 0 a with h | h
  · exact ⟨Int.mul_nonneg h h, sq_mono h h2⟩
  · have e : a * a = (-a) * (-a) := by rw [Int.neg_mul_neg]
    rw [e]
    exact ⟨Int.mul_nonneg (by omega) (by omega), sq_mono (by omega) (by omega)⟩
theorem sq_flip (a b : Int) : (b - a) * (b - a) = (a - b) * (a - b) := by
  rw [show b - a = -(a - b) by omega, Int.neg_mul_neg]
theorem den_implValidPoint (x y : Int) : Den Try.prog 17 [.agg [.i x, .i y]] (.b (bp (OkPt x y))) := by
  refine den_of_awpG (ghs [] [1]) Try.func17 rfl (by kernel_rfl) (Nat.le_of_ble_eq_true rfl) (by simp only [treeL, AVal.tree, treeL_i, treeL_ints, treeL_u8, treeL_append, Bool.and_self, Bool.and_true, Bool.true_and]) (by first | rfl | simp only [treeL, AVal.tree, treeL_i, treeL_ints, treeL_u8, treeL_append, Bool.and_self, Bool.and_true, Bool.true_and]) mixed (by kernel_rfl) fun hl => ?_
  simp only [lensL, lens, lensL_i, lensL_mapC, maxI, and_true, true_and] at hl
  rw [Try.ntmps17]
  refine ex_start ?_
  simp (config := { maxSteps := 1000000 }) +decide only [NoH, Old, OldL, nilQ, nilA, RechL, ReY, isNew, stepO, XPost, postN, XOk, updN, updU, isEff, avalue, aeff, ASt.eval, ASt.put, ASt.set, ASt.new, Nat.reduceDiv, Nat.reduceAdd, Int.reduceToNat, absV, absC, scalar, alen, acap, conc, flats, live, blkOf, aload, rd, part?, afieldAddr, afield, aindexAddr, cellsOf, afill, places, abuild, optI, asliceV, asliceS, szOk, srcCells, aappend, astore, amakeSlice, abuildSlice, snapL, mapO, treeL, AVal.tree, AVal.flatT, isFlat, ares, isFz, afroz, afrozB, lookupA, lookupH, tops, if_true, if_false, reduceCtorEq, forall_const, ite_true, ite_false, implies_true, walkS, tabS, Try.results17]
  refine callK (den_within _ _ _) (by first | exact .inl rfl | exact .inr rfl) ?_
  by_cases h1 : 0 ≤ x ∧ x ≤ 200000
  · simp (config := { maxSteps := 1000000 }) +decide only [NoH, Old, OldL, nilQ, nilA, RechL, ReY, isNew, stepO, XPost, postN, XOk, updN, updU, isEff, avalue, aeff, ASt.eval, ASt.put, ASt.set, ASt.new, Nat.reduceDiv, Nat.reduceAdd, Int.reduceToNat, absV, absC, scalar, alen, acap, conc, flats, live, blkOf, aload, rd, part?, afieldAddr, afield, aindexAddr, cellsOf, afill, places, abuild, optI, asliceV, asliceS, szOk, srcCells, aappend, astore, amakeSlice, abuildSlice, snapL, mapO, treeL, AVal.tree, AVal.flatT, isFlat, ares, isFz, afroz, afrozB, lookupA, lookupH, tops, if_true, if_false, reduceCtorEq, forall_const, ite_true, ite_false, implies_true, walkS, tabS, Try.results17, eq_true h1]
    refine callK (den_within _ _ _) (by first | exact .inl rfl | exact .inr rfl) ?_
    simp (config := { maxSteps := 1000000 }) +decide only [NoH, Old, OldL, nilQ, nilA, RechL, ReY, isNew, stepO, XPost, postN, XOk, updN, updU, isEff, avalue, aeff, ASt.eval, ASt.put, ASt.set, ASt.new, Nat.reduceDiv, Nat.reduceAdd, Int.reduceToNat, absV, absC, scalar, alen, acap, conc, flats, live, blkOf, aload, rd, part?, afieldAddr, afield, aindexAddr, cellsOf, afill, places, abuild, optI, asliceV, asliceS, szOk, srcCells, aappend, astore, amakeSlice, abuildSlice, snapL, mapO, treeL, AVal.tree, AVal.flatT, isFlat, ares, isFz, afroz, afrozB, lookupA, lookupH, tops, if_true, if_false, reduceCtorEq, forall_const, ite_true, ite_false, implies_true, walkS, tabS, Try.results17]
    exact bp_congr ⟨fun h => ⟨h1, h⟩, fun h => h.2⟩
  · have h2 : ¬ OkPt x y := fun h => h1 h.1
    simp (config := { maxSteps := 1000000 }) +decide only [NoH, Old, OldL, nilQ, nilA, RechL, ReY, isNew, stepO, XPost, postN, XOk, updN, updU, isEff, avalue, aeff, ASt.eval, ASt.put, ASt.set, ASt.new, Nat.reduceDiv, Nat.reduceAdd, Int.reduceToNat, absV, absC, scalar, alen, acap, conc, flats, live, blkOf, aload, rd, part?, afieldAddr, afield, aindexAddr, cellsOf, afill, places, abuild, optI, asliceV, asliceS, szOk, srcCells, aappend, astore, amakeSlice, abuildSlice, snapL, mapO, treeL, AVal.tree, AVal.flatT, isFlat, ares, isFz, afroz, afrozB, lookupA, lookupH, tops, if_true, if_false, reduceCtorEq, forall_const, ite_true, ite_false, implies_true, walkS, tabS, Try.results17, eq_false h1, eq_false h2]
end Go.Proofs.Ytngghngfgpiomaa
