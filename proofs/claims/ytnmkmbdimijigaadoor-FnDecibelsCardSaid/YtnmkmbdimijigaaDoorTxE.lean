/-
  OWN WORK: levels as texts, and read back; positive numbers that are drawn.
-/
import Derived.Test.YtnmkmbdimijigaaDoorTxD
import Derived.Test.YtnmkmbdimijigaaDoorDbE
import Derived.Test.YtnmkmbdimijigaaDoorSrcY
namespace Go.Proofs.YtnmkmbdimijigaaDoor
open Go Go.Own Go.Proofs
set_option maxHeartbeats 4000000
set_option maxRecDepth 20000
set_option linter.unusedSimpArgs false
set_option linter.unusedVariables false
theorem den_absN (n : Int) (h : -1000000000 ≤ n ∧ n ≤ 1000000000) : Den Tryd.prog 62 [.i n] (.i ((n.natAbs : Nat) : Int)) := by
  refine den_of_awp Tryd.func62 rfl (by kernel_rfl) (Nat.le_of_ble_eq_true rfl) (by simp only [treeL, AVal.tree, treeL_i, treeL_ints, treeL_u8, treeL_append, Bool.and_self, Bool.and_true, Bool.true_and]) (by first | rfl | simp only [treeL, AVal.tree, treeL_i, treeL_ints, treeL_u8, treeL_append, Bool.and_self, Bool.and_true, Bool.true_and]) mixed (by kernel_rfl) fun hl => ?_
  simp only [lensL, lens, lensL_i, lensL_mapC, maxI, and_true, true_and] at hl
  rw [Tryd.ntmps62]
  refine ex_start ?_
  have w : IntKind.i64.wrap (0 - n) = -n := (wrap64 (by omega) (by omega)).trans (by omega)
  have e : max n (-n) = ((n.natAbs : Nat) : Int) := by omega
  simp (config := { maxSteps := 1000000 }) +decide only [NoH, Old, OldL, nilQ, nilA, asgn, nz, RechL, ReY, isNew, stepO, XPost, postN, XOk, updN, updU, isEff, avalue, aeff, ASt.eval, ASt.put, ASt.set, ASt.new, Nat.reduceDiv, Nat.reduceAdd, Int.reduceToNat, absV, absC, scalar, alen, acap, conc, flats, live, blkOf, aload, rd, part?, afieldAddr, afield, aindexAddr, cellsOf, afill, places, abuild, optI, asliceV, asliceS, szOk, srcCells, aappend, acopy, astore, amakeSlice, abuildSlice, snapL, mapO, treeL, AVal.tree, AVal.flatT, isFlat, ares, isFz, afroz, afrozB, lookupA, lookupH, tops, if_true, if_false, reduceCtorEq, forall_const, ite_true, ite_false, implies_true, walkS, tabS, Tryd.results62, sem_mx, w, e]
theorem sem_indexT (P : Program) {t : TypeId} (h : P.underlying t = some .string) (a : List UInt8) (k : IntKind) (i : Nat) (hi : i < a.length) : semS P (Instr.index t (.string (bt a)) (.int k i)) = some (.flat (.int .u8 (a[i].toNat : Nat))) := by
  have hs : (bt a).size = a.length := bt_size a
  have e : semv P (Instr.index t (.string (bt a)) (.int k i)) = some (.int .u8 (a[i].toNat : Nat)) := by
    unfold Instr.index
    simp only [asIntOf, semv_bind, semv_under P h, semv, pure]
    have h0 : (0 : Int) ≤ (i : Int) := by omega
    have hg : (bt a)[(i : Int).toNat]? = some a[i] := by
      rw [Int.toNat_natCast, getElem?_pos (bt a) i (by rw [hs]; exact hi)]
      rfl
    rw [if_pos h0, hg]
    rfl
  unfold semS
  rw [e]
  rfl
theorem dec_snoc {u : Nat} (h : 10 ≤ u) : Lib.decDigits u = Lib.decDigits (u / 10) ++ [UInt8.ofNat (48 + u % 10)] := by
  rw [Lib.decDigits, dif_neg (by omega)]
theorem dec_one {u : Nat} (h : u < 10) : Lib.decDigits u = [UInt8.ofNat (48 + u)] := by
  rw [Lib.decDigits, dif_pos h]
/-- three digits -/
def d3 (r : Nat) : List UInt8 := [UInt8.ofNat (48 + r / 100), UInt8.ofNat (48 + r / 10 % 10), UInt8.ofNat (48 + r % 10)]
theorem d3_len (r : Nat) : (d3 r).length = 3 := rfl
theorem itoa_1000 {r : Nat} (h : r < 1000) : (Lib.itoa ((1000 + r : Nat) : Int)).drop 1 = d3 r := by
  rw [Lib.itoa_nonneg, dec_snoc (by omega), dec_snoc (by omega), dec_snoc (by omega), dec_one (by omega)]
  unfold d3
  rw [show (1000 + r) / 10 / 10 % 10 = r / 100 by omega, show (1000 + r) / 10 % 10 = r / 10 % 10 by omega, show (1000 + r) % 10 = r % 10 by omega]
  rfl
theorem dec_ge {u : Nat} (h : 1000 ≤ u) (h2 : u < 2000) : 1 ≤ (Lib.itoa (u : Int)).length := by
  rw [Lib.itoa_nonneg, Lib.decDigits_length]
  exact Lib.nDigits_pos u
/-- a level as text -/
def dbQ (v : Int) : List UInt8 := Lib.itoa ((v.natAbs / 1000 : Nat) : Int) ++ [46] ++ d3 (v.natAbs % 1000)
def dbT (v : Int) : List UInt8 := if v < 0 then 45 :: dbQ v else dbQ v
theorem den_DbText (v : Int) (h : -300000 ≤ v ∧ v ≤ 300000) : Den Tryd.prog 35 [.i v] (.t (dbT v)) := by
  refine den_of_awp Tryd.func35 rfl (by kernel_rfl) (Nat.le_of_ble_eq_true rfl) (by simp only [treeL, AVal.tree, treeL_i, treeL_ints, treeL_u8, treeL_append, Bool.and_self, Bool.and_true, Bool.true_and]) (by first | rfl | simp only [treeL, AVal.tree, treeL_i, treeL_ints, treeL_u8, treeL_append, Bool.and_self, Bool.and_true, Bool.true_and]) mixed (by kernel_rfl) fun hl => ?_
  simp only [lensL, lens, lensL_i, lensL_mapC, maxI, and_true, true_and] at hl
  rw [Tryd.ntmps35]
  refine ex_start ?_
  have hq : ((v.natAbs : Nat) : Int).tdiv 1000 = ((v.natAbs / 1000 : Nat) : Int) := by rw [Int.tdiv_eq_ediv_of_nonneg (by omega)]; omega
  have hr : ((v.natAbs : Nat) : Int).tmod 1000 = ((v.natAbs % 1000 : Nat) : Int) := by rw [Int.tmod_eq_emod_of_nonneg (by omega)]; omega
  have wq : IntKind.i64.wrap ((v.natAbs / 1000 : Nat) : Int) = ((v.natAbs / 1000 : Nat) : Int) := wrap64 (by omega) (by omega)
  have wr : IntKind.i64.wrap ((v.natAbs % 1000 : Nat) : Int) = ((v.natAbs % 1000 : Nat) : Int) := wrap64 (by omega) (by omega)
  have ws : IntKind.i64.wrap (1000 + ((v.natAbs % 1000 : Nat) : Int)) = ((1000 + v.natAbs % 1000 : Nat) : Int) := (wrap64 (by omega) (by omega)).trans (by omega)
  have e3 := itoa_1000 (r := v.natAbs % 1000) (by omega)
  have l1 := dec_ge (u := 1000 + v.natAbs % 1000) (by omega) (by omega)
  have s1 : semS Tryd.prog (Instr.slice 9 (.string (bt (Lib.itoa ((1000 + v.natAbs % 1000 : Nat) : Int)))) (some (.int .i64 1)) none none) = some (.flat (.string (bt (d3 (v.natAbs % 1000))))) := by
    rw [← e3]
    exact sem_sliceLo _ _ Tryd.underlying9 .i64 1 (by omega) (by omega)
  have lq := (itoa_len (n := ((v.natAbs / 1000 : Nat) : Int)) (k := 18) (by omega) (by omega)).1
  have a1 := fun x y => sem_addT Tryd.prog 9 x y (Lib.itoa ((v.natAbs / 1000 : Nat) : Int)) [46] (by simp only [List.length_append, List.length_cons, List.length_nil, d3_len]; omega)
  have a2 := fun x y => sem_addT Tryd.prog 9 x y (Lib.itoa ((v.natAbs / 1000 : Nat) : Int) ++ [46]) (d3 (v.natAbs % 1000)) (by simp only [List.length_append, List.length_cons, List.length_nil, d3_len]; omega)
  have a3 := fun x y => sem_addT Tryd.prog 9 x y [45] (dbQ v) (by unfold dbQ; simp only [List.length_append, List.length_cons, List.length_nil, d3_len]; omega)
  have d1 := den_Decimal ((1000 + v.natAbs % 1000 : Nat) : Int) (by omega) (by omega)
  have d2 := den_Decimal ((v.natAbs / 1000 : Nat) : Int) (by omega) (by omega)
  have la : LOk v := h
  simp (config := { maxSteps := 1000000 }) +decide only [NoH, Old, OldL, nilQ, nilA, asgn, nz, RechL, ReY, isNew, stepO, XPost, postN, XOk, updN, updU, isEff, avalue, aeff, ASt.eval, ASt.put, ASt.set, ASt.new, Nat.reduceDiv, Nat.reduceAdd, Int.reduceToNat, absV, absC, scalar, alen, acap, conc, flats, live, blkOf, aload, rd, part?, afieldAddr, afield, aindexAddr, cellsOf, afill, places, abuild, optI, asliceV, asliceS, szOk, srcCells, aappend, acopy, astore, amakeSlice, abuildSlice, snapL, mapO, treeL, AVal.tree, AVal.flatT, isFlat, ares, isFz, afroz, afrozB, lookupA, lookupH, tops, if_true, if_false, reduceCtorEq, forall_const, ite_true, ite_false, implies_true, walkS, tabS, Tryd.results35]
  refine callK (den_ValidLevel v) (by first | exact .inl rfl | exact .inr rfl) ?_
  simp (config := { maxSteps := 1000000 }) +decide only [NoH, Old, OldL, nilQ, nilA, asgn, nz, RechL, ReY, isNew, stepO, XPost, postN, XOk, updN, updU, isEff, avalue, aeff, ASt.eval, ASt.put, ASt.set, ASt.new, Nat.reduceDiv, Nat.reduceAdd, Int.reduceToNat, absV, absC, scalar, alen, acap, conc, flats, live, blkOf, aload, rd, part?, afieldAddr, afield, aindexAddr, cellsOf, afill, places, abuild, optI, asliceV, asliceS, szOk, srcCells, aappend, acopy, astore, amakeSlice, abuildSlice, snapL, mapO, treeL, AVal.tree, AVal.flatT, isFlat, ares, isFz, afroz, afrozB, lookupA, lookupH, tops, if_true, if_false, reduceCtorEq, forall_const, ite_true, ite_false, implies_true, walkS, tabS, Tryd.results35, eq_true la]
  refine callK (den_absN v (by omega)) (by first | exact .inl rfl | exact .inr rfl) ?_
  simp (config := { maxSteps := 1000000 }) +decide only [NoH, Old, OldL, nilQ, nilA, asgn, nz, RechL, ReY, isNew, stepO, XPost, postN, XOk, updN, updU, isEff, avalue, aeff, ASt.eval, ASt.put, ASt.set, ASt.new, Nat.reduceDiv, Nat.reduceAdd, Int.reduceToNat, absV, absC, scalar, alen, acap, conc, flats, live, blkOf, aload, rd, part?, afieldAddr, afield, aindexAddr, cellsOf, afill, places, abuild, optI, asliceV, asliceS, szOk, srcCells, aappend, acopy, astore, amakeSlice, abuildSlice, snapL, mapO, treeL, AVal.tree, AVal.flatT, isFlat, ares, isFz, afroz, afrozB, lookupA, lookupH, tops, if_true, if_false, reduceCtorEq, forall_const, ite_true, ite_false, implies_true, walkS, tabS, Tryd.results35, sem_rem, hr, wr, ws]
  refine callK (d1) (by first | exact .inl rfl | exact .inr rfl) ?_
  simp (config := { maxSteps := 1000000 }) +decide only [NoH, Old, OldL, nilQ, nilA, asgn, nz, RechL, ReY, isNew, stepO, XPost, postN, XOk, updN, updU, isEff, avalue, aeff, ASt.eval, ASt.put, ASt.set, ASt.new, Nat.reduceDiv, Nat.reduceAdd, Int.reduceToNat, absV, absC, scalar, alen, acap, conc, flats, live, blkOf, aload, rd, part?, afieldAddr, afield, aindexAddr, cellsOf, afill, places, abuild, optI, asliceV, asliceS, szOk, srcCells, aappend, acopy, astore, amakeSlice, abuildSlice, snapL, mapO, treeL, AVal.tree, AVal.flatT, isFlat, ares, isFz, afroz, afrozB, lookupA, lookupH, tops, if_true, if_false, reduceCtorEq, forall_const, ite_true, ite_false, implies_true, walkS, tabS, Tryd.results35, s1, Option.toList, List.head?_cons, List.head?_nil]
  refine callK (den_absN v (by omega)) (by first | exact .inl rfl | exact .inr rfl) ?_
  simp (config := { maxSteps := 1000000 }) +decide only [NoH, Old, OldL, nilQ, nilA, asgn, nz, RechL, ReY, isNew, stepO, XPost, postN, XOk, updN, updU, isEff, avalue, aeff, ASt.eval, ASt.put, ASt.set, ASt.new, Nat.reduceDiv, Nat.reduceAdd, Int.reduceToNat, absV, absC, scalar, alen, acap, conc, flats, live, blkOf, aload, rd, part?, afieldAddr, afield, aindexAddr, cellsOf, afill, places, abuild, optI, asliceV, asliceS, szOk, srcCells, aappend, acopy, astore, amakeSlice, abuildSlice, snapL, mapO, treeL, AVal.tree, AVal.flatT, isFlat, ares, isFz, afroz, afrozB, lookupA, lookupH, tops, if_true, if_false, reduceCtorEq, forall_const, ite_true, ite_false, implies_true, walkS, tabS, Tryd.results35, sem_quo, hq, wq]
  refine callK (d2) (by first | exact .inl rfl | exact .inr rfl) ?_
  by_cases c : v < 0
  · have e : dbT v = [45] ++ dbQ v := if_pos c
    have e4 : Lib.itoa ((v.natAbs / 1000 : Nat) : Int) ++ [46] ++ d3 (v.natAbs % 1000) = dbQ v := rfl
    rw [e]
    simp (config := { maxSteps := 1000000 }) +decide only [NoH, Old, OldL, nilQ, nilA, asgn, nz, RechL, ReY, isNew, stepO, XPost, postN, XOk, updN, updU, isEff, avalue, aeff, ASt.eval, ASt.put, ASt.set, ASt.new, Nat.reduceDiv, Nat.reduceAdd, Int.reduceToNat, absV, absC, scalar, alen, acap, conc, flats, live, blkOf, aload, rd, part?, afieldAddr, afield, aindexAddr, cellsOf, afill, places, abuild, optI, asliceV, asliceS, szOk, srcCells, aappend, acopy, astore, amakeSlice, abuildSlice, snapL, mapO, treeL, AVal.tree, AVal.flatT, isFlat, ares, isFz, afroz, afrozB, lookupA, lookupH, tops, if_true, if_false, reduceCtorEq, forall_const, ite_true, ite_false, implies_true, walkS, tabS, Tryd.results35, a1, a2, e4, a3, eq_true c]
  · have e : dbT v = dbQ v := if_neg c
    have e4 : Lib.itoa ((v.natAbs / 1000 : Nat) : Int) ++ [46] ++ d3 (v.natAbs % 1000) = dbQ v := rfl
    rw [e]
    simp (config := { maxSteps := 1000000 }) +decide only [NoH, Old, OldL, nilQ, nilA, asgn, nz, RechL, ReY, isNew, stepO, XPost, postN, XOk, updN, updU, isEff, avalue, aeff, ASt.eval, ASt.put, ASt.set, ASt.new, Nat.reduceDiv, Nat.reduceAdd, Int.reduceToNat, absV, absC, scalar, alen, acap, conc, flats, live, blkOf, aload, rd, part?, afieldAddr, afield, aindexAddr, cellsOf, afill, places, abuild, optI, asliceV, asliceS, szOk, srcCells, aappend, acopy, astore, amakeSlice, abuildSlice, snapL, mapO, treeL, AVal.tree, AVal.flatT, isFlat, ares, isFz, afroz, afrozB, lookupA, lookupH, tops, if_true, if_false, reduceCtorEq, forall_const, ite_true, ite_false, implies_true, walkS, tabS, Tryd.results35, a1, a2, e4, eq_false c]
theorem dbQ_head (v : Int) : ∃ c r, dbQ v = c :: r ∧ IsDig c := by
  have e := dec_digits (v.natAbs / 1000)
  have ne := dec_ne (v.natAbs / 1000)
  unfold dbQ
  rw [Lib.itoa_nonneg]
  generalize Lib.decDigits (v.natAbs / 1000) = l at *
  match l, ne with
  | c :: r, _ => exact ⟨c, r ++ [46] ++ d3 (v.natAbs % 1000), by simp, e c (by simp)⟩
theorem not_minus {c : UInt8} (h : IsDig c) : c ≠ 45 := by
  intro e
  subst e
  exact absurd h (by unfold IsDig; decide)
theorem dbT_trim (v : Int) : Lib.trimPrefix (dbT v) [45] = dbQ v := by
  unfold Lib.trimPrefix Lib.hasPrefix dbT
  split
  · rw [if_pos (by simp [List.isPrefixOf])]
    rfl
  · obtain ⟨c, r, e, d⟩ := dbQ_head v
    rw [if_neg]
    rw [isPre_one, e]
    intro k
    exact not_minus d (Option.some.inj k)
theorem dbT_pre (v : Int) : Lib.hasPrefix (dbT v) [45] = bp (v < 0) := by
  unfold Lib.hasPrefix dbT
  split
  · rename_i h
    have : [45].isPrefixOf (45 :: dbQ v) = true := by simp [List.isPrefixOf]
    rw [this, eq_true h]
    unfold bp
    simp
  · rename_i h
    obtain ⟨c, r, e, d⟩ := dbQ_head v
    have : [45].isPrefixOf (dbQ v) = false := by
      rw [Bool.eq_false_iff]
      intro k
      rw [isPre_one, e] at k
      exact not_minus d (Option.some.inj k)
    rw [this, eq_false h]
    unfold bp
    simp
theorem dbQ_cut (v : Int) : Lib.cut (dbQ v) [46] = (Lib.itoa ((v.natAbs / 1000 : Nat) : Int), d3 (v.natAbs % 1000), true) := by
  have no : (46 : UInt8) ∉ Lib.itoa ((v.natAbs / 1000 : Nat) : Int) := fun h => (numC_not (itoa_numC _ _ h)).2.2.2 rfl
  have e : dbQ v = Lib.itoa ((v.natAbs / 1000 : Nat) : Int) ++ 46 :: d3 (v.natAbs % 1000) := by simp [dbQ]
  unfold Lib.cut
  rw [e, index_at _ no, if_pos (by omega), Int.toNat_natCast, List.take_left', List.length_singleton]
  · congr 2
    rw [show (Lib.itoa ((v.natAbs / 1000 : Nat) : Int)).length + 1 = (Lib.itoa ((v.natAbs / 1000 : Nat) : Int) ++ [46]).length by simp, show Lib.itoa ((v.natAbs / 1000 : Nat) : Int) ++ 46 :: d3 (v.natAbs % 1000) = (Lib.itoa ((v.natAbs / 1000 : Nat) : Int) ++ [46]) ++ d3 (v.natAbs % 1000) by simp, List.drop_left]
  · rfl
/-- the number behind the first digits of three -/
def rd3 (q r : Nat) : Nat → Int
  | 0 => q
  | 1 => 10 * q + r / 100
  | 2 => 100 * q + r / 10
  | _ => 1000 * q + r
theorem rd3_step {q r k : Nat} (hr : r < 1000) (hk : k < 3) (hl : k < (d3 r).length) : 10 * rd3 q r k + ((d3 r)[k].toNat : Int) - 48 = rd3 q r (k + 1) := by
  match k, hk with
  | 0, _ =>
    have e : (d3 r)[0].toNat = 48 + r / 100 := dig_of (by omega)
    show 10 * (q : Int) + ((d3 r)[0].toNat : Int) - 48 = 10 * q + r / 100
    rw [e]
    omega
  | 1, _ =>
    have e : (d3 r)[1].toNat = 48 + r / 10 % 10 := dig_of (by omega)
    show 10 * (10 * (q : Int) + r / 100) + ((d3 r)[1].toNat : Int) - 48 = 100 * q + r / 10
    rw [e]
    omega
  | 2, _ =>
    have e : (d3 r)[2].toNat = 48 + r % 10 := dig_of (by omega)
    show 10 * (100 * (q : Int) + r / 10) + ((d3 r)[2].toNat : Int) - 48 = 1000 * q + r
    rw [e]
    omega
theorem rd3_in {q r k : Nat} (hr : r < 1000) (hk : k ≤ 3) : 0 ≤ rd3 q r k ∧ rd3 q r k ≤ 1000 * q + r := by
  match k, hk with
  | 0, _ => show 0 ≤ (q : Int) ∧ (q : Int) ≤ _; omega
  | 1, _ => show 0 ≤ 10 * (q : Int) + r / 100 ∧ 10 * (q : Int) + r / 100 ≤ _; omega
  | 2, _ => show 0 ≤ 100 * (q : Int) + r / 10 ∧ 100 * (q : Int) + r / 10 ≤ _; omega
  | 3, _ => show 0 ≤ 1000 * (q : Int) + r ∧ 1000 * (q : Int) + r ≤ _; omega
theorem den_ReadDb (v : Int) (h : -300000 ≤ v ∧ v ≤ 300000) : Den Tryd.prog 34 [.t (dbT v)] (.tup [.i v, .b true]) := by
  refine den_of_awp Tryd.func34 rfl (by kernel_rfl) (Nat.le_of_ble_eq_true rfl) (by simp only [treeL, AVal.tree, treeL_i, treeL_ints, treeL_u8, treeL_append, Bool.and_self, Bool.and_true, Bool.true_and]) (by first | rfl | simp only [treeL, AVal.tree, treeL_i, treeL_ints, treeL_u8, treeL_append, Bool.and_self, Bool.and_true, Bool.true_and]) mixed (by kernel_rfl) fun hl => ?_
  simp only [lensL, lens, lensL_i, lensL_mapC, maxI, and_true, true_and] at hl
  rw [Tryd.ntmps34]
  refine ex_start ?_
  have hT := den_TrimPrefix (dbT v) [45]
  rw [dbT_trim] at hT
  have lq := (itoa_len (n := ((v.natAbs / 1000 : Nat) : Int)) (k := 18) (by omega) (by omega)).1
  have hC := den_Cut (dbQ v) [46] (by unfold dbQ; simp only [List.length_append, List.length_cons, List.length_nil, d3_len]; omega)
  rw [dbQ_cut] at hC
  dsimp only at hC
  have hP := den_HasPrefix (dbT v) [45]
  rw [dbT_pre] at hP
  have hD := den_DbText v h
  have hR := den_ReadDecimal ((v.natAbs / 1000 : Nat) : Int) ⟨by omega, by omega⟩
  have hq : v.natAbs / 1000 ≤ 300 := by omega
  have hr : v.natAbs % 1000 < 1000 := by omega
  have hv : (1000 : Int) * ((v.natAbs / 1000 : Nat) : Int) + ((v.natAbs % 1000 : Nat) : Int) = ((v.natAbs : Nat) : Int) := by omega
  generalize v.natAbs / 1000 = q at *
  generalize v.natAbs % 1000 = r at *
  have e3 : rd3 q r 3 = ((v.natAbs : Nat) : Int) := hv
  generalize dbT v = T at *
  have c3 : (d3 r).length = 3 := rfl
  have c3I : ((d3 r).length : Int) = 3 := by omega
  have st := fun k (hk : k < 3) => rd3_step (q := q) hr hk (by rw [c3]; exact hk)
  have rin := fun k (hk : k ≤ 3) => rd3_in (q := q) hr hk
  have z0 : rd3 q r 0 = (q : Int) := rfl
  have ix := fun k (hk : k < (d3 r).length) => sem_indexT Tryd.prog Tryd.underlying9 (d3 r) .i64 k hk
  have cv : ∀ n : Int, semS Tryd.prog (convert 5 2 (.int .u8 n)) = some (.flat (.int .i64 (IntKind.i64.wrap n))) := fun n => sem_conv _ _ (by kernel_rfl) (by kernel_rfl)
  generalize d3 r = D at *
  simp (config := { maxSteps := 1000000 }) +decide only [NoH, Old, OldL, nilQ, nilA, asgn, nz, RechL, ReY, isNew, stepO, XPost, postN, XOk, updN, updU, isEff, avalue, aeff, ASt.eval, ASt.put, ASt.set, ASt.new, Nat.reduceDiv, Nat.reduceAdd, Int.reduceToNat, absV, absC, scalar, alen, acap, conc, flats, live, blkOf, aload, rd, part?, afieldAddr, afield, aindexAddr, cellsOf, afill, places, abuild, optI, asliceV, asliceS, szOk, srcCells, aappend, acopy, astore, amakeSlice, abuildSlice, snapL, mapO, treeL, AVal.tree, AVal.flatT, isFlat, ares, isFz, afroz, afrozB, lookupA, lookupH, tops, if_true, if_false, reduceCtorEq, forall_const, ite_true, ite_false, implies_true, walkS, tabS, Tryd.results34]
  refine callK (hT) (by first | exact .inl rfl | exact .inr rfl) ?_
  simp (config := { maxSteps := 1000000 }) +decide only [NoH, Old, OldL, nilQ, nilA, asgn, nz, RechL, ReY, isNew, stepO, XPost, postN, XOk, updN, updU, isEff, avalue, aeff, ASt.eval, ASt.put, ASt.set, ASt.new, Nat.reduceDiv, Nat.reduceAdd, Int.reduceToNat, absV, absC, scalar, alen, acap, conc, flats, live, blkOf, aload, rd, part?, afieldAddr, afield, aindexAddr, cellsOf, afill, places, abuild, optI, asliceV, asliceS, szOk, srcCells, aappend, acopy, astore, amakeSlice, abuildSlice, snapL, mapO, treeL, AVal.tree, AVal.flatT, isFlat, ares, isFz, afroz, afrozB, lookupA, lookupH, tops, if_true, if_false, reduceCtorEq, forall_const, ite_true, ite_false, implies_true, walkS, tabS, Tryd.results34]
  refine callK (hC) (by first | exact .inl rfl | exact .inr rfl) ?_
  simp (config := { maxSteps := 1000000 }) +decide only [NoH, Old, OldL, nilQ, nilA, asgn, nz, RechL, ReY, isNew, stepO, XPost, postN, XOk, updN, updU, isEff, avalue, aeff, ASt.eval, ASt.put, ASt.set, ASt.new, Nat.reduceDiv, Nat.reduceAdd, Int.reduceToNat, absV, absC, scalar, alen, acap, conc, flats, live, blkOf, aload, rd, part?, afieldAddr, afield, aindexAddr, cellsOf, afill, places, abuild, optI, asliceV, asliceS, szOk, srcCells, aappend, acopy, astore, amakeSlice, abuildSlice, snapL, mapO, treeL, AVal.tree, AVal.flatT, isFlat, ares, isFz, afroz, afrozB, lookupA, lookupH, tops, if_true, if_false, reduceCtorEq, forall_const, ite_true, ite_false, implies_true, walkS, tabS, Tryd.results34]
  refine callK (hR) (by first | exact .inl rfl | exact .inr rfl) ?_
  simp (config := { maxSteps := 1000000 }) +decide only [NoH, Old, OldL, nilQ, nilA, asgn, nz, RechL, ReY, isNew, stepO, XPost, postN, XOk, updN, updU, isEff, avalue, aeff, ASt.eval, ASt.put, ASt.set, ASt.new, Nat.reduceDiv, Nat.reduceAdd, Int.reduceToNat, absV, absC, scalar, alen, acap, conc, flats, live, blkOf, aload, rd, part?, afieldAddr, afield, aindexAddr, cellsOf, afill, places, abuild, optI, asliceV, asliceS, szOk, srcCells, aappend, acopy, astore, amakeSlice, abuildSlice, snapL, mapO, treeL, AVal.tree, AVal.flatT, isFlat, ares, isFz, afroz, afrozB, lookupA, lookupH, tops, if_true, if_false, reduceCtorEq, forall_const, ite_true, ite_false, implies_true, walkS, tabS, Tryd.results34, bt_size, c3, c3I]
  refine ex_loop (fun k : {k : Nat // k ≤ 3} => mk [(0, .t T), (5, .t D), (7, .i (rd3 q r k.1)), (30, .i ((3 : Nat) : Int)), (31, .i k.1)] [] 0 52) (fun k => 3 - k.1) ⟨0, by omega⟩ ?_ ?_
  · refine weak_mk rfl (by first | exact Nat.le_refl _ | (simp only [mk_gen]; omega)) ?_ ?_ <;> simp +decide only [w_lookup_nil, w_lookup_cons, ch_ch, ch_lit, lit_ch, wkT, wkH, wkB, WVL, WV_refl', Int.natCast_zero, Int.natCast_add, Int.natCast_one, Nat.sub_self, Nat.sub_zero, List.replicate_zero, List.take_zero, List.nil_append, List.append_nil, fillC_zero, Nat.reduceDiv, Nat.reduceAdd, upd_bk, bk_at, getB_zero, getB_succ, modB_zero, modB_succ, rows_lit, repB_zero, repB_succ, List.length_cons, List.length_nil, upd_upd_same, upd_apply, mk_tmp, mk_heap, mk_gen, lookupA, lookupH, List.getD_cons_zero, List.getD_cons_succ, init_two, tops, Bool.true_and, and_self, and_true, true_and, true_or, if_true, if_false, ite_true, ite_false, reduceCtorEq, reduceIte, z0]
  rintro ⟨k, hk⟩
  have hk' : k ≤ 3 := hk
  by_cases hlt : k < 3
  · have hltI : (k : Int) < 3 := by omega
    have wk : IntKind.i64.wrap ((k : Int) + 1) = ((k + 1 : Nat) : Int) := wrap64 (by omega) (by omega)
    have hl : k < D.length := by omega
    have s1 := st k hlt
    have r1 := rin k (by omega)
    have r2 := rin (k + 1) (by omega)
    have wc : IntKind.i64.wrap (D[k].toNat : Int) = (D[k].toNat : Int) := by
      have := D[k].toNat_lt
      exact wrap64 (by omega) (by omega)
    have w1 : IntKind.i64.wrap (10 * rd3 q r k) = 10 * rd3 q r k := wrap64 (by omega) (by omega)
    have w2 : IntKind.i64.wrap (10 * rd3 q r k + (D[k].toNat : Int)) = 10 * rd3 q r k + (D[k].toNat : Int) := wrap64 (by omega) (by omega)
    have w3 : IntKind.i64.wrap (10 * rd3 q r k + (D[k].toNat : Int) - 48) = rd3 q r (k + 1) := (wrap64 (by omega) (by omega)).trans s1
    have ik := ix k hl
    simp (config := { maxSteps := 1000000 }) +decide only [NoH, Old, OldL, nilQ, nilA, asgn, nz, RechL, ReY, isNew, stepO, XPost, postN, XOk, updN, updU, isEff, avalue, aeff, ASt.eval, ASt.put, ASt.set, ASt.new, Nat.reduceDiv, Nat.reduceAdd, Int.reduceToNat, absV, absC, scalar, alen, acap, conc, flats, live, blkOf, aload, rd, part?, afieldAddr, afield, aindexAddr, cellsOf, afill, places, abuild, optI, asliceV, asliceS, szOk, srcCells, aappend, acopy, astore, amakeSlice, abuildSlice, snapL, mapO, treeL, AVal.tree, AVal.flatT, isFlat, ares, isFz, afroz, afrozB, lookupA, lookupH, tops, if_true, if_false, reduceCtorEq, forall_const, ite_true, ite_false, implies_true, walkS, tabS, Tryd.results34, eq_true hltI, eq_true hlt, ik, cv, wc, w1, w2, w3, wk]
    refine ⟨⟨k + 1, hlt⟩, ?_, by show 3 - (k + 1) < 3 - k; omega⟩
    refine weak_mk rfl (by first | exact Nat.le_refl _ | (simp only [mk_gen]; omega)) ?_ ?_ <;> simp +decide only [w_lookup_nil, w_lookup_cons, ch_ch, ch_lit, lit_ch, wkT, wkH, wkB, WVL, WV_refl', Int.natCast_zero, Int.natCast_add, Int.natCast_one, Nat.sub_self, Nat.sub_zero, List.replicate_zero, List.take_zero, List.nil_append, List.append_nil, fillC_zero, Nat.reduceDiv, Nat.reduceAdd, upd_bk, bk_at, getB_zero, getB_succ, modB_zero, modB_succ, rows_lit, repB_zero, repB_succ, List.length_cons, List.length_nil, upd_upd_same, upd_apply, mk_tmp, mk_heap, mk_gen, lookupA, lookupH, List.getD_cons_zero, List.getD_cons_succ, init_two, tops, Bool.true_and, and_self, and_true, true_and, true_or, if_true, if_false, ite_true, ite_false, reduceCtorEq, reduceIte]
  have e : k = 3 := by omega
  subst e
  have wn : IntKind.i64.wrap (0 - ((v.natAbs : Nat) : Int)) = -((v.natAbs : Nat) : Int) := (wrap64 (by omega) (by omega)).trans (by omega)
  have c9 : ¬ 3 < 3 := by omega
  simp (config := { maxSteps := 1000000 }) +decide only [NoH, Old, OldL, nilQ, nilA, asgn, nz, RechL, ReY, isNew, stepO, XPost, postN, XOk, updN, updU, isEff, avalue, aeff, ASt.eval, ASt.put, ASt.set, ASt.new, Nat.reduceDiv, Nat.reduceAdd, Int.reduceToNat, absV, absC, scalar, alen, acap, conc, flats, live, blkOf, aload, rd, part?, afieldAddr, afield, aindexAddr, cellsOf, afill, places, abuild, optI, asliceV, asliceS, szOk, srcCells, aappend, acopy, astore, amakeSlice, abuildSlice, snapL, mapO, treeL, AVal.tree, AVal.flatT, isFlat, ares, isFz, afroz, afrozB, lookupA, lookupH, tops, if_true, if_false, reduceCtorEq, forall_const, ite_true, ite_false, implies_true, walkS, tabS, Tryd.results34, eq_false c9, e3]
  refine callK (hP) (by first | exact .inl rfl | exact .inr rfl) ?_
  by_cases c : v < 0
  · have ev : -((v.natAbs : Nat) : Int) = v := by omega
    simp (config := { maxSteps := 1000000 }) +decide only [NoH, Old, OldL, nilQ, nilA, asgn, nz, RechL, ReY, isNew, stepO, XPost, postN, XOk, updN, updU, isEff, avalue, aeff, ASt.eval, ASt.put, ASt.set, ASt.new, Nat.reduceDiv, Nat.reduceAdd, Int.reduceToNat, absV, absC, scalar, alen, acap, conc, flats, live, blkOf, aload, rd, part?, afieldAddr, afield, aindexAddr, cellsOf, afill, places, abuild, optI, asliceV, asliceS, szOk, srcCells, aappend, acopy, astore, amakeSlice, abuildSlice, snapL, mapO, treeL, AVal.tree, AVal.flatT, isFlat, ares, isFz, afroz, afrozB, lookupA, lookupH, tops, if_true, if_false, reduceCtorEq, forall_const, ite_true, ite_false, implies_true, walkS, tabS, Tryd.results34, eq_true c, wn, ev]
    refine callK (hD) (by first | exact .inl rfl | exact .inr rfl) ?_
    simp (config := { maxSteps := 1000000 }) +decide only [NoH, Old, OldL, nilQ, nilA, asgn, nz, RechL, ReY, isNew, stepO, XPost, postN, XOk, updN, updU, isEff, avalue, aeff, ASt.eval, ASt.put, ASt.set, ASt.new, Nat.reduceDiv, Nat.reduceAdd, Int.reduceToNat, absV, absC, scalar, alen, acap, conc, flats, live, blkOf, aload, rd, part?, afieldAddr, afield, aindexAddr, cellsOf, afill, places, abuild, optI, asliceV, asliceS, szOk, srcCells, aappend, acopy, astore, amakeSlice, abuildSlice, snapL, mapO, treeL, AVal.tree, AVal.flatT, isFlat, ares, isFz, afroz, afrozB, lookupA, lookupH, tops, if_true, if_false, reduceCtorEq, forall_const, ite_true, ite_false, implies_true, walkS, tabS, Tryd.results34, sem_neqT]
  · have ev : ((v.natAbs : Nat) : Int) = v := by omega
    simp (config := { maxSteps := 1000000 }) +decide only [NoH, Old, OldL, nilQ, nilA, asgn, nz, RechL, ReY, isNew, stepO, XPost, postN, XOk, updN, updU, isEff, avalue, aeff, ASt.eval, ASt.put, ASt.set, ASt.new, Nat.reduceDiv, Nat.reduceAdd, Int.reduceToNat, absV, absC, scalar, alen, acap, conc, flats, live, blkOf, aload, rd, part?, afieldAddr, afield, aindexAddr, cellsOf, afill, places, abuild, optI, asliceV, asliceS, szOk, srcCells, aappend, acopy, astore, amakeSlice, abuildSlice, snapL, mapO, treeL, AVal.tree, AVal.flatT, isFlat, ares, isFz, afroz, afrozB, lookupA, lookupH, tops, if_true, if_false, reduceCtorEq, forall_const, ite_true, ite_false, implies_true, walkS, tabS, Tryd.results34, eq_false c, ev]
    refine callK (hD) (by first | exact .inl rfl | exact .inr rfl) ?_
    simp (config := { maxSteps := 1000000 }) +decide only [NoH, Old, OldL, nilQ, nilA, asgn, nz, RechL, ReY, isNew, stepO, XPost, postN, XOk, updN, updU, isEff, avalue, aeff, ASt.eval, ASt.put, ASt.set, ASt.new, Nat.reduceDiv, Nat.reduceAdd, Int.reduceToNat, absV, absC, scalar, alen, acap, conc, flats, live, blkOf, aload, rd, part?, afieldAddr, afield, aindexAddr, cellsOf, afill, places, abuild, optI, asliceV, asliceS, szOk, srcCells, aappend, acopy, astore, amakeSlice, abuildSlice, snapL, mapO, treeL, AVal.tree, AVal.flatT, isFlat, ares, isFz, afroz, afrozB, lookupA, lookupH, tops, if_true, if_false, reduceCtorEq, forall_const, ite_true, ite_false, implies_true, walkS, tabS, Tryd.results34, sem_neqT]
theorem pow256 : ∀ n : Nat, (1 : Int) ≤ 256 ^ n
  | 0 => by decide
  | n + 1 => by have := pow256 n; rw [Int.pow_succ]; omega
theorem deny_R8Count {bs : List Int} (hb : Byt bs) : DenY Tryd.prog 30 [.v (bytesV bs)] (fun n : Int => 1 ≤ n ∧ n ≤ 281474976710656) (fun _ => [.v (bytesV bs)]) (fun n => xi n) := by
  refine denY_of_awpG (ghs [] []) Tryd.func30 rfl (by kernel_rfl) (Nat.le_of_ble_eq_true rfl) (by simp +decide only [w_embA_nil, w_embA_cons, w_emb_v, w_emb_ol, w_emb_op, w_emb_agg, w_emb_tup, w_embL_nil, w_embL_cons, embL_i, List.map_cons, List.map_nil, List.nil_append, List.append_nil, List.cons_append, List.nodup_cons, List.nodup_nil, List.mem_cons, List.mem_nil_iff, List.not_mem_nil, ch_ch, ch_lit, lit_ch, Nat.reduceAdd]) mixed (by kernel_rfl) fun hl => ?_
  simp only [xlensL, xlens, lensL, lens, lensL_i, lensL_mapC, xlensL_i, maxI, and_true, true_and] at hl
  rw [Tryd.ntmps30]
  refine ex_start ?_
  simp (config := { maxSteps := 1000000 }) +decide only [NoH, Old, OldL, nilQ, nilA, asgn, nz, RechL, ReY, isNew, stepO, XPost, postN, XOk, updN, updU, isEff, avalue, aeff, ASt.eval, ASt.put, ASt.set, ASt.new, Nat.reduceDiv, Nat.reduceAdd, Int.reduceToNat, absV, absC, scalar, alen, acap, conc, flats, live, blkOf, aload, rd, part?, afieldAddr, afield, aindexAddr, cellsOf, afill, places, abuild, optI, asliceV, asliceS, szOk, srcCells, aappend, acopy, astore, amakeSlice, abuildSlice, snapL, mapO, treeL, AVal.tree, AVal.flatT, isFlat, ares, isFz, afroz, afrozB, lookupA, lookupH, tops, if_true, if_false, reduceCtorEq, forall_const, ite_true, ite_false, implies_true, walkS, tabS, Tryd.results30]
  refine callX (denx_l00From bs) (by simp (config := { maxSteps := 1000000 }) +decide only [NoH, Old, OldL, nilQ, nilA, asgn, nz, RechL, ReY, isNew, stepO, XPost, postN, XOk, updN, updU, isEff, avalue, aeff, ASt.eval, ASt.put, ASt.set, ASt.new, Nat.reduceDiv, Nat.reduceAdd, Int.reduceToNat, absV, absC, scalar, alen, acap, conc, flats, live, blkOf, aload, rd, part?, afieldAddr, afield, aindexAddr, cellsOf, afill, places, abuild, optI, asliceV, asliceS, szOk, srcCells, aappend, acopy, astore, amakeSlice, abuildSlice, snapL, mapO, treeL, AVal.tree, AVal.flatT, isFlat, ares, isFz, afroz, afrozB, lookupA, lookupH, tops, if_true, if_false, reduceCtorEq, forall_const, ite_true, ite_false, implies_true, walkS, tabS, Tryd.results30]) ?_
  simp (config := { maxSteps := 1000000 }) +decide only [NoH, Old, OldL, nilQ, nilA, asgn, nz, RechL, ReY, isNew, stepO, XPost, postN, XOk, updN, updU, isEff, avalue, aeff, ASt.eval, ASt.put, ASt.set, ASt.new, Nat.reduceDiv, Nat.reduceAdd, Int.reduceToNat, absV, absC, scalar, alen, acap, conc, flats, live, blkOf, aload, rd, part?, afieldAddr, afield, aindexAddr, cellsOf, afill, places, abuild, optI, asliceV, asliceS, szOk, srcCells, aappend, acopy, astore, amakeSlice, abuildSlice, snapL, mapO, treeL, AVal.tree, AVal.flatT, isFlat, ares, isFz, afroz, afrozB, lookupA, lookupH, tops, if_true, if_false, reduceCtorEq, forall_const, ite_true, ite_false, implies_true, walkS, tabS, Tryd.results30]
  refine callY (deny_next hb (0, 0) (by omega)) (by simp (config := { maxSteps := 1000000 }) +decide only [NoH, Old, OldL, nilQ, nilA, asgn, nz, RechL, ReY, isNew, stepO, XPost, postN, XOk, updN, updU, isEff, avalue, aeff, ASt.eval, ASt.put, ASt.set, ASt.new, Nat.reduceDiv, Nat.reduceAdd, Int.reduceToNat, absV, absC, scalar, alen, acap, conc, flats, live, blkOf, aload, rd, part?, afieldAddr, afield, aindexAddr, cellsOf, afill, places, abuild, optI, asliceV, asliceS, szOk, srcCells, aappend, acopy, astore, amakeSlice, abuildSlice, snapL, mapO, treeL, AVal.tree, AVal.flatT, isFlat, ares, isFz, afroz, afrozB, lookupA, lookupH, tops, if_true, if_false, reduceCtorEq, forall_const, ite_true, ite_false, implies_true, walkS, tabS, Tryd.results30]) (fun i hi => by simp (config := { maxSteps := 1000000 }) +decide only [NoH, Old, OldL, nilQ, nilA, asgn, nz, RechL, ReY, isNew, stepO, XPost, postN, XOk, updN, updU, isEff, avalue, aeff, ASt.eval, ASt.put, ASt.set, ASt.new, Nat.reduceDiv, Nat.reduceAdd, Int.reduceToNat, absV, absC, scalar, alen, acap, conc, flats, live, blkOf, aload, rd, part?, afieldAddr, afield, aindexAddr, cellsOf, afill, places, abuild, optI, asliceV, asliceS, szOk, srcCells, aappend, acopy, astore, amakeSlice, abuildSlice, snapL, mapO, treeL, AVal.tree, AVal.flatT, isFlat, ares, isFz, afroz, afrozB, lookupA, lookupH, tops, if_true, if_false, reduceCtorEq, forall_const, ite_true, ite_false, implies_true, walkS, tabS, Tryd.results30]) ?_
  rintro ⟨s1, a⟩ ⟨e1, e2, e3⟩
  have e1' : s1.1 ≤ 0 + 1 := e1
  have e2' : 0 ≤ a := e2
  have e3' : a ≤ 255 := e3
  simp (config := { maxSteps := 1000000 }) +decide only [NoH, Old, OldL, nilQ, nilA, asgn, nz, RechL, ReY, isNew, stepO, XPost, postN, XOk, updN, updU, isEff, avalue, aeff, ASt.eval, ASt.put, ASt.set, ASt.new, Nat.reduceDiv, Nat.reduceAdd, Int.reduceToNat, absV, absC, scalar, alen, acap, conc, flats, live, blkOf, aload, rd, part?, afieldAddr, afield, aindexAddr, cellsOf, afill, places, abuild, optI, asliceV, asliceS, szOk, srcCells, aappend, acopy, astore, amakeSlice, abuildSlice, snapL, mapO, treeL, AVal.tree, AVal.flatT, isFlat, ares, isFz, afroz, afrozB, lookupA, lookupH, tops, if_true, if_false, reduceCtorEq, forall_const, ite_true, ite_false, implies_true, walkS, tabS, Tryd.results30]
  refine callY (deny_pick hb 6 s1 (by omega)) (by simp (config := { maxSteps := 1000000 }) +decide only [NoH, Old, OldL, nilQ, nilA, asgn, nz, RechL, ReY, isNew, stepO, XPost, postN, XOk, updN, updU, isEff, avalue, aeff, ASt.eval, ASt.put, ASt.set, ASt.new, Nat.reduceDiv, Nat.reduceAdd, Int.reduceToNat, absV, absC, scalar, alen, acap, conc, flats, live, blkOf, aload, rd, part?, afieldAddr, afield, aindexAddr, cellsOf, afill, places, abuild, optI, asliceV, asliceS, szOk, srcCells, aappend, acopy, astore, amakeSlice, abuildSlice, snapL, mapO, treeL, AVal.tree, AVal.flatT, isFlat, ares, isFz, afroz, afrozB, lookupA, lookupH, tops, if_true, if_false, reduceCtorEq, forall_const, ite_true, ite_false, implies_true, walkS, tabS, Tryd.results30]) (fun i hi => by simp (config := { maxSteps := 1000000 }) +decide only [NoH, Old, OldL, nilQ, nilA, asgn, nz, RechL, ReY, isNew, stepO, XPost, postN, XOk, updN, updU, isEff, avalue, aeff, ASt.eval, ASt.put, ASt.set, ASt.new, Nat.reduceDiv, Nat.reduceAdd, Int.reduceToNat, absV, absC, scalar, alen, acap, conc, flats, live, blkOf, aload, rd, part?, afieldAddr, afield, aindexAddr, cellsOf, afill, places, abuild, optI, asliceV, asliceS, szOk, srcCells, aappend, acopy, astore, amakeSlice, abuildSlice, snapL, mapO, treeL, AVal.tree, AVal.flatT, isFlat, ares, isFz, afroz, afrozB, lookupA, lookupH, tops, if_true, if_false, reduceCtorEq, forall_const, ite_true, ite_false, implies_true, walkS, tabS, Tryd.results30]) ?_
  rintro ⟨s2, m⟩ ⟨f1, f2, f3⟩
  have f1' : s2.1 ≤ s1.1 + 2 := f1
  have f2' : 0 ≤ m := f2
  have f3' : m < 6 := f3 (by omega)
  obtain ⟨n, rfl⟩ : ∃ n : Nat, m = n := ⟨m.toNat, by omega⟩
  have hn : n ≤ 5 := by omega
  simp (config := { maxSteps := 1000000 }) +decide only [NoH, Old, OldL, nilQ, nilA, asgn, nz, RechL, ReY, isNew, stepO, XPost, postN, XOk, updN, updU, isEff, avalue, aeff, ASt.eval, ASt.put, ASt.set, ASt.new, Nat.reduceDiv, Nat.reduceAdd, Int.reduceToNat, absV, absC, scalar, alen, acap, conc, flats, live, blkOf, aload, rd, part?, afieldAddr, afield, aindexAddr, cellsOf, afill, places, abuild, optI, asliceV, asliceS, szOk, srcCells, aappend, acopy, astore, amakeSlice, abuildSlice, snapL, mapO, treeL, AVal.tree, AVal.flatT, isFlat, ares, isFz, afroz, afrozB, lookupA, lookupH, tops, if_true, if_false, reduceCtorEq, forall_const, ite_true, ite_false, implies_true, walkS, tabS, Tryd.results30]
  refine ex_loop (fun p : {p : Nat × SrcS × Int × Nat // p.1 ≤ 5 ∧ p.2.1.1 + p.1 ≤ 20 ∧ 0 ≤ p.2.2.1 ∧ (p.2.2.1 + 1) * 256 ^ p.1 ≤ 281474976710656} => mkG (ghs [] []) [(3, .ptr 7 1 0), (4, .i p.1.2.2.1), (5, .i p.1.1)] [(7, ⟨1, 3, [bytesV bs, .i p.1.2.1.1, .u64 p.1.2.1.2]⟩)] p.1.2.2.2 23) (fun p => p.1.1) ⟨(n, s2, a, 4), hn, by show s2.1 + n ≤ 20; omega, e2', ?_⟩ ?_ ?_
  · show (a + 1) * 256 ^ n ≤ 281474976710656
    have h1 : (256 : Int) ^ n ≤ 256 ^ 5 := by
      have : n = 0 ∨ n = 1 ∨ n = 2 ∨ n = 3 ∨ n = 4 ∨ n = 5 := by omega
      rcases this with rfl | rfl | rfl | rfl | rfl | rfl <;> decide
    have h0 : (0 : Int) ≤ 256 ^ n := Int.pow_nonneg (by omega)
    have h2 : (a + 1) * 256 ^ n ≤ 256 * 256 ^ n := Int.mul_le_mul_of_nonneg_right (by omega) h0
    have h3 : (256 : Int) ^ 5 = 1099511627776 := by decide
    omega
  · refine weak_mk rfl (by first | exact Nat.le_refl _ | (simp only [mk_gen]; omega)) ?_ ?_ <;> simp +decide only [w_lookup_nil, w_lookup_cons, ch_ch, ch_lit, lit_ch, wkT, wkH, wkB, WVL, WV_refl', Int.natCast_zero, Int.natCast_add, Int.natCast_one, Nat.sub_self, Nat.sub_zero, List.replicate_zero, List.take_zero, List.nil_append, List.append_nil, fillC_zero, Nat.reduceDiv, Nat.reduceAdd, upd_bk, bk_at, getB_zero, getB_succ, modB_zero, modB_succ, rows_lit, repB_zero, repB_succ, List.length_cons, List.length_nil, upd_upd_same, upd_apply, mk_tmp, mk_heap, mk_gen, lookupA, lookupH, List.getD_cons_zero, List.getD_cons_succ, init_two, tops, Bool.true_and, and_self, and_true, true_and, true_or, if_true, if_false, ite_true, ite_false, reduceCtorEq, reduceIte]
  rintro ⟨⟨c, s3, x, G⟩, k1, k2, k3, k4⟩
  have k1' : c ≤ 5 := k1
  have k2' : s3.1 + c ≤ 20 := k2
  have k3' : 0 ≤ x := k3
  have k4' : (x + 1) * 256 ^ c ≤ 281474976710656 := k4
  have hx : x + 1 ≤ 281474976710656 := by
    have h0 : (1 : Int) ≤ 256 ^ c := pow256 _
    have := Int.mul_le_mul_of_nonneg_left h0 (show 0 ≤ x + 1 by omega)
    omega
  by_cases hc : 0 < c
  case neg =>
    have hcI : ¬ (0 : Int) < (c : Int) := by omega
    have w1 : IntKind.i64.wrap (x + 1) = x + 1 := wrap64 (by omega) (by omega)
    simp (config := { maxSteps := 1000000 }) +decide only [NoH, Old, OldL, nilQ, nilA, asgn, nz, RechL, ReY, isNew, stepO, XPost, postN, XOk, updN, updU, isEff, avalue, aeff, ASt.eval, ASt.put, ASt.set, ASt.new, Nat.reduceDiv, Nat.reduceAdd, Int.reduceToNat, absV, absC, scalar, alen, acap, conc, flats, live, blkOf, aload, rd, part?, afieldAddr, afield, aindexAddr, cellsOf, afill, places, abuild, optI, asliceV, asliceS, szOk, srcCells, aappend, acopy, astore, amakeSlice, abuildSlice, snapL, mapO, treeL, AVal.tree, AVal.flatT, isFlat, ares, isFz, afroz, afrozB, lookupA, lookupH, tops, if_true, if_false, reduceCtorEq, forall_const, ite_true, ite_false, implies_true, walkS, tabS, Tryd.results30, eq_false hcI, w1]
    refine yret (x + 1) ⟨by omega, hx⟩ ?_
    simp (config := { maxSteps := 1000000 }) +decide only [NoH, Old, OldL, nilQ, nilA, asgn, nz, RechL, ReY, isNew, stepO, XPost, postN, XOk, updN, updU, isEff, avalue, aeff, ASt.eval, ASt.put, ASt.set, ASt.new, Nat.reduceDiv, Nat.reduceAdd, Int.reduceToNat, absV, absC, scalar, alen, acap, conc, flats, live, blkOf, aload, rd, part?, afieldAddr, afield, aindexAddr, cellsOf, afill, places, abuild, optI, asliceV, asliceS, szOk, srcCells, aappend, acopy, astore, amakeSlice, abuildSlice, snapL, mapO, treeL, AVal.tree, AVal.flatT, isFlat, ares, isFz, afroz, afrozB, lookupA, lookupH, tops, if_true, if_false, reduceCtorEq, forall_const, ite_true, ite_false, implies_true, walkS, tabS, Tryd.results30]
  obtain ⟨d, rfl⟩ : ∃ d, c = d + 1 := ⟨c - 1, by omega⟩
  have hcI : (0 : Int) < ((d + 1 : Nat) : Int) := by omega
  have wc : IntKind.i64.wrap (((d + 1 : Nat) : Int) - 1) = (d : Int) := (wrap64 (by omega) (by omega)).trans (by omega)
  simp (config := { maxSteps := 1000000 }) +decide only [NoH, Old, OldL, nilQ, nilA, asgn, nz, RechL, ReY, isNew, stepO, XPost, postN, XOk, updN, updU, isEff, avalue, aeff, ASt.eval, ASt.put, ASt.set, ASt.new, Nat.reduceDiv, Nat.reduceAdd, Int.reduceToNat, absV, absC, scalar, alen, acap, conc, flats, live, blkOf, aload, rd, part?, afieldAddr, afield, aindexAddr, cellsOf, afill, places, abuild, optI, asliceV, asliceS, szOk, srcCells, aappend, acopy, astore, amakeSlice, abuildSlice, snapL, mapO, treeL, AVal.tree, AVal.flatT, isFlat, ares, isFz, afroz, afrozB, lookupA, lookupH, tops, if_true, if_false, reduceCtorEq, forall_const, ite_true, ite_false, implies_true, walkS, tabS, Tryd.results30, eq_true hcI]
  refine callY (deny_next hb s3 (by omega)) (by simp (config := { maxSteps := 1000000 }) +decide only [NoH, Old, OldL, nilQ, nilA, asgn, nz, RechL, ReY, isNew, stepO, XPost, postN, XOk, updN, updU, isEff, avalue, aeff, ASt.eval, ASt.put, ASt.set, ASt.new, Nat.reduceDiv, Nat.reduceAdd, Int.reduceToNat, absV, absC, scalar, alen, acap, conc, flats, live, blkOf, aload, rd, part?, afieldAddr, afield, aindexAddr, cellsOf, afill, places, abuild, optI, asliceV, asliceS, szOk, srcCells, aappend, acopy, astore, amakeSlice, abuildSlice, snapL, mapO, treeL, AVal.tree, AVal.flatT, isFlat, ares, isFz, afroz, afrozB, lookupA, lookupH, tops, if_true, if_false, reduceCtorEq, forall_const, ite_true, ite_false, implies_true, walkS, tabS, Tryd.results30]) (fun i hi => by simp (config := { maxSteps := 1000000 }) +decide only [NoH, Old, OldL, nilQ, nilA, asgn, nz, RechL, ReY, isNew, stepO, XPost, postN, XOk, updN, updU, isEff, avalue, aeff, ASt.eval, ASt.put, ASt.set, ASt.new, Nat.reduceDiv, Nat.reduceAdd, Int.reduceToNat, absV, absC, scalar, alen, acap, conc, flats, live, blkOf, aload, rd, part?, afieldAddr, afield, aindexAddr, cellsOf, afill, places, abuild, optI, asliceV, asliceS, szOk, srcCells, aappend, acopy, astore, amakeSlice, abuildSlice, snapL, mapO, treeL, AVal.tree, AVal.flatT, isFlat, ares, isFz, afroz, afrozB, lookupA, lookupH, tops, if_true, if_false, reduceCtorEq, forall_const, ite_true, ite_false, implies_true, walkS, tabS, Tryd.results30]) ?_
  rintro ⟨s4, b⟩ ⟨g1, g2, g3⟩
  have g1' : s4.1 ≤ s3.1 + 1 := g1
  have g2' : 0 ≤ b := g2
  have g3' : b ≤ 255 := g3
  have hp : (256 : Int) ^ (d + 1) = 256 ^ d * 256 := Int.pow_succ ..
  have h0 : (0 : Int) ≤ 256 ^ d := Int.pow_nonneg (by omega)
  have key : (256 * x + b + 1) * 256 ^ d ≤ 281474976710656 := by
    have h2 : (256 * x + b + 1) * 256 ^ d ≤ (256 * (x + 1)) * 256 ^ d := Int.mul_le_mul_of_nonneg_right (by omega) h0
    have h3 : (256 * (x + 1)) * 256 ^ d = (x + 1) * (256 ^ d * 256) := by rw [Int.mul_comm 256 (x + 1), Int.mul_assoc, Int.mul_comm 256]
    rw [hp] at k4'
    omega
  have hx2 : 256 * x + b + 1 ≤ 281474976710656 := by
    have h1 : (1 : Int) ≤ 256 ^ d := pow256 _
    have := Int.mul_le_mul_of_nonneg_left h1 (show 0 ≤ 256 * x + b + 1 by omega)
    omega
  have w1 : IntKind.i64.wrap (256 * x) = 256 * x := wrap64 (by omega) (by omega)
  have w2 : IntKind.i64.wrap (256 * x + b) = 256 * x + b := wrap64 (by omega) (by omega)
  simp (config := { maxSteps := 1000000 }) +decide only [NoH, Old, OldL, nilQ, nilA, asgn, nz, RechL, ReY, isNew, stepO, XPost, postN, XOk, updN, updU, isEff, avalue, aeff, ASt.eval, ASt.put, ASt.set, ASt.new, Nat.reduceDiv, Nat.reduceAdd, Int.reduceToNat, absV, absC, scalar, alen, acap, conc, flats, live, blkOf, aload, rd, part?, afieldAddr, afield, aindexAddr, cellsOf, afill, places, abuild, optI, asliceV, asliceS, szOk, srcCells, aappend, acopy, astore, amakeSlice, abuildSlice, snapL, mapO, treeL, AVal.tree, AVal.flatT, isFlat, ares, isFz, afroz, afrozB, lookupA, lookupH, tops, if_true, if_false, reduceCtorEq, forall_const, ite_true, ite_false, implies_true, walkS, tabS, Tryd.results30, w1, w2, wc]
  refine ⟨⟨(d, s4, 256 * x + b, G + 1), by show d ≤ 5; omega, by show s4.1 + d ≤ 20; omega, by show 0 ≤ 256 * x + b; omega, key⟩, ?_, by show d < d + 1; omega⟩
  refine weak_mk rfl (by first | exact Nat.le_refl _ | (simp only [mk_gen]; omega)) ?_ ?_ <;> simp +decide only [w_lookup_nil, w_lookup_cons, ch_ch, ch_lit, lit_ch, wkT, wkH, wkB, WVL, WV_refl', Int.natCast_zero, Int.natCast_add, Int.natCast_one, Nat.sub_self, Nat.sub_zero, List.replicate_zero, List.take_zero, List.nil_append, List.append_nil, fillC_zero, Nat.reduceDiv, Nat.reduceAdd, upd_bk, bk_at, getB_zero, getB_succ, modB_zero, modB_succ, rows_lit, repB_zero, repB_succ, List.length_cons, List.length_nil, upd_upd_same, upd_apply, mk_tmp, mk_heap, mk_gen, lookupA, lookupH, List.getD_cons_zero, List.getD_cons_succ, init_two, tops, Bool.true_and, and_self, and_true, true_and, true_or, if_true, if_false, ite_true, ite_false, reduceCtorEq, reduceIte]
end Go.Proofs.YtnmkmbdimijigaaDoor
