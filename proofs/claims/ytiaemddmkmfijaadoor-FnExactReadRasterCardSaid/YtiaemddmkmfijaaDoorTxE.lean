/-
  OWN WORK: levels as texts, and read back; positive numbers that are drawn.
-/
import Derived.Test.YtiaemddmkmfijaaDoorTxD
import Derived.Test.YtiaemddmkmfijaaDoorDbE
import Derived.Test.YtiaemddmkmfijaaDoorSrcY
namespace Go.Proofs.YtiaemddmkmfijaaDoor
open Go Go.Own Go.Proofs
set_option maxHeartbeats 4000000
set_option maxRecDepth 20000
set_option linter.unusedSimpArgs false
set_option linter.unusedVariables false
theorem den_absN (n : Int) (h : -1000000000 ≤ n ∧ n ≤ 1000000000) : Den Tryd.prog 110 [.i n] (.i ((n.natAbs : Nat) : Int)) := by
  refine den_of_awp Tryd.func110 rfl (by kernel_rfl) (Nat.le_of_ble_eq_true rfl) (by simp only [treeL, AVal.tree, treeL_i, treeL_ints, treeL_u8, treeL_append, Bool.and_self, Bool.and_true, Bool.true_and]) (by first | rfl | simp only [treeL, AVal.tree, treeL_i, treeL_ints, treeL_u8, treeL_append, Bool.and_self, Bool.and_true, Bool.true_and]) mixed (by kernel_rfl) fun hl => ?_
  simp only [lensL, lens, lensL_i, lensL_mapC, maxI, and_true, true_and] at hl
  rw [Tryd.ntmps110]
  refine ex_start ?_
  have w : IntKind.i64.wrap (0 - n) = -n := (wrap64 (by omega) (by omega)).trans (by omega)
  have e : max n (-n) = ((n.natAbs : Nat) : Int) := by omega
  simp (config := { maxSteps := 1000000 }) +decide only [NoH, Old, OldL, nilQ, nilA, asgn, nz, RechL, ReY, isNew, stepO, XPost, postN, XOk, updN, updU, isEff, avalue, aeff, ASt.eval, ASt.put, ASt.set, ASt.new, Nat.reduceDiv, Nat.reduceAdd, Int.reduceToNat, absV, absC, scalar, alen, acap, conc, flats, live, blkOf, aload, rd, part?, afieldAddr, afield, aindexAddr, cellsOf, afill, places, abuild, optI, asliceV, asliceS, szOk, srcCells, aappend, acopy, astore, amakeSlice, abuildSlice, snapL, mapO, treeL, AVal.tree, AVal.flatT, isFlat, ares, isFz, afroz, afrozB, lookupA, lookupH, tops, if_true, if_false, reduceCtorEq, forall_const, ite_true, ite_false, implies_true, walkS, tabS, Tryd.results110, sem_mx, w, e]
theorem dec_snoc {u : Nat} (h : 10 ≤ u) : Lib.decDigits u = Lib.decDigits (u / 10) ++ [UInt8.ofNat (48 + u % 10)] := by
  rw [Lib.decDigits, dif_neg (by omega)]
theorem dec_one {u : Nat} (h : u < 10) : Lib.decDigits u = [UInt8.ofNat (48 + u)] := by
  rw [Lib.decDigits, dif_pos h]
/-- three digits -/
def d3 (r : Nat) : List UInt8 := [UInt8.ofNat (48 + r / 100), UInt8.ofNat (48 + r / 10 % 10), UInt8.ofNat (48 + r % 10)]
theorem d3_len (r : Nat) : (d3 r).length = 3 := rfl
theorem itoa_1000 {r : Nat} (h : r < 1000) : (Lib.itoa ((1000 + r : Nat) : Int)).drop 1 = d3 r := by
  rw [Lib.itoa_nonneg, dec_snoc (by omega), dec_snoc (by omega), dec_snoc (by omega), dec_one (by omega)]
  unfold d3
  rw [show (1000 + r) / 10 / 10 % 10 = r / 100 by omega, show (1000 + r) / 10 % 10 = r / 10 % 10 by omega, show (1000 + r) % 10 = r % 10 by omega]
  rfl
theorem dec_ge {u : Nat} (h : 1000 ≤ u) (h2 : u < 2000) : 1 ≤ (Lib.itoa (u : Int)).length := by
  rw [Lib.itoa_nonneg, Lib.decDigits_length]
  exact Lib.nDigits_pos u
/-- a level as text -/
def dbQ (v : Int) : List UInt8 := Lib.itoa ((v.natAbs / 1000 : Nat) : Int) ++ [46] ++ d3 (v.natAbs % 1000)
def dbT (v : Int) : List UInt8 := if v < 0 then 45 :: dbQ v else dbQ v
theorem dbQ_head (v : Int) : ∃ c r, dbQ v = c :: r ∧ IsDig c := by
  have e := dec_digits (v.natAbs / 1000)
  have ne := dec_ne (v.natAbs / 1000)
  unfold dbQ
  rw [Lib.itoa_nonneg]
  generalize Lib.decDigits (v.natAbs / 1000) = l at *
  match l, ne with
  | c :: r, _ => exact ⟨c, r ++ [46] ++ d3 (v.natAbs % 1000), by simp, e c (by simp)⟩
theorem not_minus {c : UInt8} (h : IsDig c) : c ≠ 45 := by
  intro e
  subst e
  exact absurd h (by unfold IsDig; decide)
theorem dbT_trim (v : Int) : Lib.trimPrefix (dbT v) [45] = dbQ v := by
  unfold Lib.trimPrefix Lib.hasPrefix dbT
  split
  · rw [if_pos (by simp [List.isPrefixOf])]
    rfl
  · obtain ⟨c, r, e, d⟩ := dbQ_head v
    rw [if_neg]
    rw [isPre_one, e]
    intro k
    exact not_minus d (Option.some.inj k)
theorem dbT_pre (v : Int) : Lib.hasPrefix (dbT v) [45] = bp (v < 0) := by
  unfold Lib.hasPrefix dbT
  split
  · rename_i h
    have : [45].isPrefixOf (45 :: dbQ v) = true := by simp [List.isPrefixOf]
    rw [this, eq_true h]
    unfold bp
    simp
  · rename_i h
    obtain ⟨c, r, e, d⟩ := dbQ_head v
    have : [45].isPrefixOf (dbQ v) = false := by
      rw [Bool.eq_false_iff]
      intro k
      rw [isPre_one, e] at k
      exact not_minus d (Option.some.inj k)
    rw [this, eq_false h]
    unfold bp
    simp
theorem dbQ_cut (v : Int) : Lib.cut (dbQ v) [46] = (Lib.itoa ((v.natAbs / 1000 : Nat) : Int), d3 (v.natAbs % 1000), true) := by
  have no : (46 : UInt8) ∉ Lib.itoa ((v.natAbs / 1000 : Nat) : Int) := fun h => (numC_not (itoa_numC _ _ h)).2.2.2 rfl
  have e : dbQ v = Lib.itoa ((v.natAbs / 1000 : Nat) : Int) ++ 46 :: d3 (v.natAbs % 1000) := by simp [dbQ]
  unfold Lib.cut
  rw [e, index_at _ no, if_pos (by omega), Int.toNat_natCast, List.take_left', List.length_singleton]
  · congr 2
    rw [show (Lib.itoa ((v.natAbs / 1000 : Nat) : Int)).length + 1 = (Lib.itoa ((v.natAbs / 1000 : Nat) : Int) ++ [46]).length by simp, show Lib.itoa ((v.natAbs / 1000 : Nat) : Int) ++ 46 :: d3 (v.natAbs % 1000) = (Lib.itoa ((v.natAbs / 1000 : Nat) : Int) ++ [46]) ++ d3 (v.natAbs % 1000) by simp, List.drop_left]
  · rfl
/-- the number behind the first digits of three -/
def rd3 (q r : Nat) : Nat → Int
  | 0 => q
  | 1 => 10 * q + r / 100
  | 2 => 100 * q + r / 10
  | _ => 1000 * q + r
theorem rd3_step {q r k : Nat} (hr : r < 1000) (hk : k < 3) (hl : k < (d3 r).length) : 10 * rd3 q r k + ((d3 r)[k].toNat : Int) - 48 = rd3 q r (k + 1) := by
  match k, hk with
  | 0, _ =>
    have e : (d3 r)[0].toNat = 48 + r / 100 := dig_of (by omega)
    show 10 * (q : Int) + ((d3 r)[0].toNat : Int) - 48 = 10 * q + r / 100
    rw [e]
    omega
  | 1, _ =>
    have e : (d3 r)[1].toNat = 48 + r / 10 % 10 := dig_of (by omega)
    show 10 * (10 * (q : Int) + r / 100) + ((d3 r)[1].toNat : Int) - 48 = 100 * q + r / 10
    rw [e]
    omega
  | 2, _ =>
    have e : (d3 r)[2].toNat = 48 + r % 10 := dig_of (by omega)
    show 10 * (100 * (q : Int) + r / 10) + ((d3 r)[2].toNat : Int) - 48 = 1000 * q + r
    rw [e]
    omega
theorem rd3_in {q r k : Nat} (hr : r < 1000) (hk : k ≤ 3) : 0 ≤ rd3 q r k ∧ rd3 q r k ≤ 1000 * q + r := by
  match k, hk with
  | 0, _ => show 0 ≤ (q : Int) ∧ (q : Int) ≤ _; omega
  | 1, _ => show 0 ≤ 10 * (q : Int) + r / 100 ∧ 10 * (q : Int) + r / 100 ≤ _; omega
  | 2, _ => show 0 ≤ 100 * (q : Int) + r / 10 ∧ 100 * (q : Int) + r / 10 ≤ _; omega
  | 3, _ => show 0 ≤ 1000 * (q : Int) + r ∧ 1000 * (q : Int) + r ≤ _; omega
theorem pow256 : ∀ n : Nat, (1 : Int) ≤ 256 ^ n
  | 0 => by decide
  | n + 1 => by have := pow256 n; rw [Int.pow_succ]; omega
end Go.Proofs.YtiaemddmkmfijaaDoor
