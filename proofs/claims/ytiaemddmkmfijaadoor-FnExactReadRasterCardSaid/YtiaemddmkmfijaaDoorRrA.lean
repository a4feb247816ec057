/-
  OWN WORK: numbers and lists read from any text: some value comes of it.
-/
import Derived.Test.YtiaemddmkmfijaaDoorTxG
import Derived.Test.YtiaemddmkmfijaaDoorGtA
import Derived.Lib.ParseIntBTie
namespace Go.Proofs.YtiaemddmkmfijaaDoor
open Go Go.Own Go.Proofs Go.RowKit
open Go.Sort (grow)
set_option maxHeartbeats 4000000
set_option maxRecDepth 20000
set_option linter.unusedSimpArgs false
set_option linter.unusedVariables false
theorem den_ParseIntG (T : List UInt8) (hT : T.length ≤ 2000000) (n : Int) (h : Lib.parseIntB 64 T = .ok n) : Den Tryd.prog 98 [.t T, .i 10, .i 64] (.tup [.i n, .flat .nilIface]) := by
  refine ⟨⟨_, Tryd.func98, by kernel_rfl, by kernel_rfl⟩, rfl, fun w vs ok hok hg hr => ?_⟩
  obtain ⟨v, r, rfl, hv, v2, r2, rfl, hv2, v3, r3, rfl, hv3, rfl⟩ := hr
  obtain rfl := repS hv
  obtain rfl := repI hv2
  obtain rfl := repI hv3
  refine Calls.mono (Any.strconv_ParseInt_10_at64_ok Tryd.parse (bt T) (by rw [bt_size]; omega) n (by rw [bt_data]; exact h) w) ?_
  rintro e w' ⟨rfl, hw⟩
  refine ⟨_, rfl, ⟨_, rfl, _, _, rfl, ⟨rfl, rfl⟩, _, _, rfl, ⟨rfl, rfl⟩, rfl⟩, ?_⟩
  rcases hw with rfl | ⟨t, rfl⟩
  · exact Below.refl _ _
  · exact ⟨rfl, rfl, rfl, by rw [Lib.bytesWorld_size]; omega, fun j hj => Lib.bytesWorld_at_old w _ t j hj⟩
theorem den_ReadDecimalRg (T : List UInt8) (hT : T.length ≤ 281474976710656) (h : Lib.parseIntB 64 T = .range) : Den Tryd.prog 62 [.t T] (.tup [.i 0, .b false]) := by
  refine ⟨⟨_, Tryd.func62, by kernel_rfl, by kernel_rfl⟩, rfl, fun w vs ok hok hg hr => ?_⟩
  obtain ⟨v, r, rfl, hv, rfl⟩ := hr
  obtain rfl := repS hv
  obtain ⟨tp, p, he⟩ := glob_err hg (g := 3) (by simp [GL.shp])
  have hP := Any.strconv_ParseInt_10_at64_range Tryd.parse (bt T) (by rw [bt_size]; exact hT) (by rw [bt_data]; exact h) (.iface tp p) w he (.inr ⟨tp, p, rfl⟩)
  have eP : ∀ args w, (callFunc 98 args).run Tryd.prog w = .ok (.enter 98 args) w := enters_of Tryd.func98 (by kernel_rfl) rfl
  generalize Lib.intSat 64 (bt T).data.toList = sat at hP
  go_enter Tryd.func62, Tryd.ntmps62
  go_wp2_with (go_at_fn 98; refine hP.mono ?_)
  rintro e w' ⟨N, rfl, hN, hO, hB⟩
  go_wp2
  go_ret2
  exact ⟨_, rfl, ⟨_, rfl, _, _, rfl, ⟨rfl, rfl⟩, _, _, rfl, ⟨rfl, rfl⟩, rfl⟩, hB⟩
theorem ex_ReadDecimal (T : List UInt8) (hT : T.length ≤ 2000000) : ∃ n b, Den Tryd.prog 62 [.t T] (.tup [.i n, .b b]) := by
  rcases h : Lib.parseIntB 64 T with n | _ | _
  · have hn : -9223372036854775808 ≤ n ∧ n ≤ 9223372036854775807 := by
      have b := Lib.parseIntB_bounds h
      have e : ((2 ^ (64 - 1) : Nat) : Int) = 9223372036854775808 := by decide
      rw [e] at b
      omega
    have hP := den_ParseIntG T hT n h
    by_cases c1 : 18 < (Lib.trimPrefix T [45]).length
    · refine ⟨0, false, ?_⟩
      have c1I : (18 : Int) < ((Lib.trimPrefix T [45]).length : Int) := by omega
      refine den_of_awp Tryd.func62 rfl (by kernel_rfl) (Nat.le_of_ble_eq_true rfl) (by simp only [treeL, AVal.tree, treeL_i, treeL_ints, treeL_u8, treeL_append, Bool.and_self, Bool.and_true, Bool.true_and]) (by first | rfl | simp only [treeL, AVal.tree, treeL_i, treeL_ints, treeL_u8, treeL_append, Bool.and_self, Bool.and_true, Bool.true_and]) mixed (by kernel_rfl) fun hl => ?_
      simp only [lensL, lens, lensL_i, lensL_mapC, maxI, and_true, true_and] at hl
      rw [Tryd.ntmps62]
      refine ex_start ?_
      simp (config := { maxSteps := 1000000 }) +decide only [NoH, Old, OldL, nilQ, nilA, asgn, nz, RechL, ReY, isNew, stepO, XPost, postN, XOk, updN, updU, isEff, avalue, aeff, ASt.eval, ASt.put, ASt.set, ASt.new, Nat.reduceDiv, Nat.reduceAdd, Int.reduceToNat, absV, absC, scalar, alen, acap, conc, flats, live, blkOf, aload, rd, part?, afieldAddr, afield, aindexAddr, cellsOf, afill, places, abuild, optI, asliceV, asliceS, szOk, srcCells, aappend, acopy, astore, amakeSlice, abuildSlice, snapL, mapO, treeL, AVal.tree, AVal.flatT, isFlat, ares, isFz, afroz, afrozB, lookupA, lookupH, tops, if_true, if_false, reduceCtorEq, forall_const, ite_true, ite_false, implies_true, walkS, tabS, Tryd.results62]
      refine callK (hP) (by first | exact .inl rfl | exact .inr rfl) ?_
      simp (config := { maxSteps := 1000000 }) +decide only [NoH, Old, OldL, nilQ, nilA, asgn, nz, RechL, ReY, isNew, stepO, XPost, postN, XOk, updN, updU, isEff, avalue, aeff, ASt.eval, ASt.put, ASt.set, ASt.new, Nat.reduceDiv, Nat.reduceAdd, Int.reduceToNat, absV, absC, scalar, alen, acap, conc, flats, live, blkOf, aload, rd, part?, afieldAddr, afield, aindexAddr, cellsOf, afill, places, abuild, optI, asliceV, asliceS, szOk, srcCells, aappend, acopy, astore, amakeSlice, abuildSlice, snapL, mapO, treeL, AVal.tree, AVal.flatT, isFlat, ares, isFz, afroz, afrozB, lookupA, lookupH, tops, if_true, if_false, reduceCtorEq, forall_const, ite_true, ite_false, implies_true, walkS, tabS, Tryd.results62, sem_errNil]
      refine callK (den_TrimPrefix T [45]) (by first | exact .inl rfl | exact .inr rfl) ?_
      simp (config := { maxSteps := 1000000 }) +decide only [NoH, Old, OldL, nilQ, nilA, asgn, nz, RechL, ReY, isNew, stepO, XPost, postN, XOk, updN, updU, isEff, avalue, aeff, ASt.eval, ASt.put, ASt.set, ASt.new, Nat.reduceDiv, Nat.reduceAdd, Int.reduceToNat, absV, absC, scalar, alen, acap, conc, flats, live, blkOf, aload, rd, part?, afieldAddr, afield, aindexAddr, cellsOf, afill, places, abuild, optI, asliceV, asliceS, szOk, srcCells, aappend, acopy, astore, amakeSlice, abuildSlice, snapL, mapO, treeL, AVal.tree, AVal.flatT, isFlat, ares, isFz, afroz, afrozB, lookupA, lookupH, tops, if_true, if_false, reduceCtorEq, forall_const, ite_true, ite_false, implies_true, walkS, tabS, Tryd.results62, bt_size, eq_true c1I]
    have c1I : ¬ (18 : Int) < ((Lib.trimPrefix T [45]).length : Int) := by omega
    by_cases c2 : Lib.itoa n = T
    · refine ⟨n, true, ?_⟩
      refine den_of_awp Tryd.func62 rfl (by kernel_rfl) (Nat.le_of_ble_eq_true rfl) (by simp only [treeL, AVal.tree, treeL_i, treeL_ints, treeL_u8, treeL_append, Bool.and_self, Bool.and_true, Bool.true_and]) (by first | rfl | simp only [treeL, AVal.tree, treeL_i, treeL_ints, treeL_u8, treeL_append, Bool.and_self, Bool.and_true, Bool.true_and]) mixed (by kernel_rfl) fun hl => ?_
      simp only [lensL, lens, lensL_i, lensL_mapC, maxI, and_true, true_and] at hl
      rw [Tryd.ntmps62]
      refine ex_start ?_
      simp (config := { maxSteps := 1000000 }) +decide only [NoH, Old, OldL, nilQ, nilA, asgn, nz, RechL, ReY, isNew, stepO, XPost, postN, XOk, updN, updU, isEff, avalue, aeff, ASt.eval, ASt.put, ASt.set, ASt.new, Nat.reduceDiv, Nat.reduceAdd, Int.reduceToNat, absV, absC, scalar, alen, acap, conc, flats, live, blkOf, aload, rd, part?, afieldAddr, afield, aindexAddr, cellsOf, afill, places, abuild, optI, asliceV, asliceS, szOk, srcCells, aappend, acopy, astore, amakeSlice, abuildSlice, snapL, mapO, treeL, AVal.tree, AVal.flatT, isFlat, ares, isFz, afroz, afrozB, lookupA, lookupH, tops, if_true, if_false, reduceCtorEq, forall_const, ite_true, ite_false, implies_true, walkS, tabS, Tryd.results62]
      refine callK (hP) (by first | exact .inl rfl | exact .inr rfl) ?_
      simp (config := { maxSteps := 1000000 }) +decide only [NoH, Old, OldL, nilQ, nilA, asgn, nz, RechL, ReY, isNew, stepO, XPost, postN, XOk, updN, updU, isEff, avalue, aeff, ASt.eval, ASt.put, ASt.set, ASt.new, Nat.reduceDiv, Nat.reduceAdd, Int.reduceToNat, absV, absC, scalar, alen, acap, conc, flats, live, blkOf, aload, rd, part?, afieldAddr, afield, aindexAddr, cellsOf, afill, places, abuild, optI, asliceV, asliceS, szOk, srcCells, aappend, acopy, astore, amakeSlice, abuildSlice, snapL, mapO, treeL, AVal.tree, AVal.flatT, isFlat, ares, isFz, afroz, afrozB, lookupA, lookupH, tops, if_true, if_false, reduceCtorEq, forall_const, ite_true, ite_false, implies_true, walkS, tabS, Tryd.results62, sem_errNil]
      refine callK (den_TrimPrefix T [45]) (by first | exact .inl rfl | exact .inr rfl) ?_
      simp (config := { maxSteps := 1000000 }) +decide only [NoH, Old, OldL, nilQ, nilA, asgn, nz, RechL, ReY, isNew, stepO, XPost, postN, XOk, updN, updU, isEff, avalue, aeff, ASt.eval, ASt.put, ASt.set, ASt.new, Nat.reduceDiv, Nat.reduceAdd, Int.reduceToNat, absV, absC, scalar, alen, acap, conc, flats, live, blkOf, aload, rd, part?, afieldAddr, afield, aindexAddr, cellsOf, afill, places, abuild, optI, asliceV, asliceS, szOk, srcCells, aappend, acopy, astore, amakeSlice, abuildSlice, snapL, mapO, treeL, AVal.tree, AVal.flatT, isFlat, ares, isFz, afroz, afrozB, lookupA, lookupH, tops, if_true, if_false, reduceCtorEq, forall_const, ite_true, ite_false, implies_true, walkS, tabS, Tryd.results62, bt_size, eq_false c1I]
      refine callK (den_Decimal n (by omega) (by omega)) (by first | exact .inl rfl | exact .inr rfl) ?_
      simp (config := { maxSteps := 1000000 }) +decide only [NoH, Old, OldL, nilQ, nilA, asgn, nz, RechL, ReY, isNew, stepO, XPost, postN, XOk, updN, updU, isEff, avalue, aeff, ASt.eval, ASt.put, ASt.set, ASt.new, Nat.reduceDiv, Nat.reduceAdd, Int.reduceToNat, absV, absC, scalar, alen, acap, conc, flats, live, blkOf, aload, rd, part?, afieldAddr, afield, aindexAddr, cellsOf, afill, places, abuild, optI, asliceV, asliceS, szOk, srcCells, aappend, acopy, astore, amakeSlice, abuildSlice, snapL, mapO, treeL, AVal.tree, AVal.flatT, isFlat, ares, isFz, afroz, afrozB, lookupA, lookupH, tops, if_true, if_false, reduceCtorEq, forall_const, ite_true, ite_false, implies_true, walkS, tabS, Tryd.results62, sem_neqT, eq_true c2]
    · refine ⟨0, false, ?_⟩
      refine den_of_awp Tryd.func62 rfl (by kernel_rfl) (Nat.le_of_ble_eq_true rfl) (by simp only [treeL, AVal.tree, treeL_i, treeL_ints, treeL_u8, treeL_append, Bool.and_self, Bool.and_true, Bool.true_and]) (by first | rfl | simp only [treeL, AVal.tree, treeL_i, treeL_ints, treeL_u8, treeL_append, Bool.and_self, Bool.and_true, Bool.true_and]) mixed (by kernel_rfl) fun hl => ?_
      simp only [lensL, lens, lensL_i, lensL_mapC, maxI, and_true, true_and] at hl
      rw [Tryd.ntmps62]
      refine ex_start ?_
      simp (config := { maxSteps := 1000000 }) +decide only [NoH, Old, OldL, nilQ, nilA, asgn, nz, RechL, ReY, isNew, stepO, XPost, postN, XOk, updN, updU, isEff, avalue, aeff, ASt.eval, ASt.put, ASt.set, ASt.new, Nat.reduceDiv, Nat.reduceAdd, Int.reduceToNat, absV, absC, scalar, alen, acap, conc, flats, live, blkOf, aload, rd, part?, afieldAddr, afield, aindexAddr, cellsOf, afill, places, abuild, optI, asliceV, asliceS, szOk, srcCells, aappend, acopy, astore, amakeSlice, abuildSlice, snapL, mapO, treeL, AVal.tree, AVal.flatT, isFlat, ares, isFz, afroz, afrozB, lookupA, lookupH, tops, if_true, if_false, reduceCtorEq, forall_const, ite_true, ite_false, implies_true, walkS, tabS, Tryd.results62]
      refine callK (hP) (by first | exact .inl rfl | exact .inr rfl) ?_
      simp (config := { maxSteps := 1000000 }) +decide only [NoH, Old, OldL, nilQ, nilA, asgn, nz, RechL, ReY, isNew, stepO, XPost, postN, XOk, updN, updU, isEff, avalue, aeff, ASt.eval, ASt.put, ASt.set, ASt.new, Nat.reduceDiv, Nat.reduceAdd, Int.reduceToNat, absV, absC, scalar, alen, acap, conc, flats, live, blkOf, aload, rd, part?, afieldAddr, afield, aindexAddr, cellsOf, afill, places, abuild, optI, asliceV, asliceS, szOk, srcCells, aappend, acopy, astore, amakeSlice, abuildSlice, snapL, mapO, treeL, AVal.tree, AVal.flatT, isFlat, ares, isFz, afroz, afrozB, lookupA, lookupH, tops, if_true, if_false, reduceCtorEq, forall_const, ite_true, ite_false, implies_true, walkS, tabS, Tryd.results62, sem_errNil]
      refine callK (den_TrimPrefix T [45]) (by first | exact .inl rfl | exact .inr rfl) ?_
      simp (config := { maxSteps := 1000000 }) +decide only [NoH, Old, OldL, nilQ, nilA, asgn, nz, RechL, ReY, isNew, stepO, XPost, postN, XOk, updN, updU, isEff, avalue, aeff, ASt.eval, ASt.put, ASt.set, ASt.new, Nat.reduceDiv, Nat.reduceAdd, Int.reduceToNat, absV, absC, scalar, alen, acap, conc, flats, live, blkOf, aload, rd, part?, afieldAddr, afield, aindexAddr, cellsOf, afill, places, abuild, optI, asliceV, asliceS, szOk, srcCells, aappend, acopy, astore, amakeSlice, abuildSlice, snapL, mapO, treeL, AVal.tree, AVal.flatT, isFlat, ares, isFz, afroz, afrozB, lookupA, lookupH, tops, if_true, if_false, reduceCtorEq, forall_const, ite_true, ite_false, implies_true, walkS, tabS, Tryd.results62, bt_size, eq_false c1I]
      refine callK (den_Decimal n (by omega) (by omega)) (by first | exact .inl rfl | exact .inr rfl) ?_
      simp (config := { maxSteps := 1000000 }) +decide only [NoH, Old, OldL, nilQ, nilA, asgn, nz, RechL, ReY, isNew, stepO, XPost, postN, XOk, updN, updU, isEff, avalue, aeff, ASt.eval, ASt.put, ASt.set, ASt.new, Nat.reduceDiv, Nat.reduceAdd, Int.reduceToNat, absV, absC, scalar, alen, acap, conc, flats, live, blkOf, aload, rd, part?, afieldAddr, afield, aindexAddr, cellsOf, afill, places, abuild, optI, asliceV, asliceS, szOk, srcCells, aappend, acopy, astore, amakeSlice, abuildSlice, snapL, mapO, treeL, AVal.tree, AVal.flatT, isFlat, ares, isFz, afroz, afrozB, lookupA, lookupH, tops, if_true, if_false, reduceCtorEq, forall_const, ite_true, ite_false, implies_true, walkS, tabS, Tryd.results62, sem_neqT, eq_false c2]
  · exact ⟨0, false, den_ReadDecimalNo T (by omega) (h.trans (by decide +kernel))⟩
  · exact ⟨0, false, den_ReadDecimalRg T (by omega) h⟩
/-- what comes of a text as a number -/
theorem dec_fun : ∃ (f : List UInt8 → Int) (g : List UInt8 → Bool), ∀ T, T.length ≤ 2000000 → Den Tryd.prog 62 [.t T] (.tup [.i (f T), .b (g T)]) := by
  have h : ∀ T : List UInt8, ∃ p : Int × Bool, T.length ≤ 2000000 → Den Tryd.prog 62 [.t T] (.tup [.i p.1, .b p.2]) := fun T => by
    by_cases hT : T.length ≤ 2000000
    · obtain ⟨n, b, d⟩ := ex_ReadDecimal T hT
      exact ⟨(n, b), fun _ => d⟩
    · exact ⟨(0, false), fun k => absurd k hT⟩
  obtain ⟨f, hf⟩ := Classical.axiomOfChoice h
  exact ⟨fun T => (f T).1, fun T => (f T).2, hf⟩
theorem ex_not_all {xs : List Int} (h : ¬ ∀ x ∈ xs, In12 x) : ∃ n, n < xs.length ∧ (∀ i (hi : i < xs.length), i < n → In12 xs[i]) ∧ ∀ hn : n < xs.length, ¬ In12 xs[n] := by
  induction xs with
  | nil => exact absurd (fun x hx => by simp at hx) h
  | cons a l ih =>
    by_cases ha : In12 a
    · have h2 : ¬ ∀ x ∈ l, In12 x := fun k => h fun x hx => by
        rcases List.mem_cons.1 hx with e | e
        · subst e; exact ha
        · exact k x e
      obtain ⟨n, h1, h3, h4⟩ := ih h2
      refine ⟨n + 1, by simpa using h1, fun i hi hin => ?_, fun hn => by simpa using h4 h1⟩
      match i with
      | 0 => exact ha
      | i + 1 => exact h3 i (by simpa using hi) (by omega)
    · exact ⟨0, by simp, fun i _ k => absurd k (Nat.not_lt_zero _), fun _ => ha⟩
theorem ex_ListText (xs : List Int) (hx : xs.length ≤ 1000) : ∃ T, (T = [] ∨ xs.length ≤ 64 ∧ (∀ x ∈ xs, In12 x) ∧ T = numsT xs) ∧ Den Tryd.prog 39 [ints xs] (.t T) := by
  by_cases c1 : xs.length ≤ 64
  case neg =>
    refine ⟨[], .inl rfl, ?_⟩
    have c1I : (64 : Int) < (xs.length : Int) := by omega
    refine den_of_awpG (ghs [] [27]) Tryd.func39 rfl (by kernel_rfl) (Nat.le_of_ble_eq_true rfl) (by simp only [treeL, AVal.tree, treeL_i, treeL_ints, treeL_u8, treeL_append, Bool.and_self, Bool.and_true, Bool.true_and]) (by first | rfl | simp only [treeL, AVal.tree, treeL_i, treeL_ints, treeL_u8, treeL_append, Bool.and_self, Bool.and_true, Bool.true_and]) mixed (by kernel_rfl) fun hl => ?_
    simp only [lensL, lens, lensL_i, lensL_mapC, maxI, and_true, true_and] at hl
    rw [Tryd.ntmps39]
    refine ex_start ?_
    simp (config := { maxSteps := 1000000 }) +decide only [NoH, Old, OldL, nilQ, nilA, asgn, nz, RechL, ReY, isNew, stepO, XPost, postN, XOk, updN, updU, isEff, avalue, aeff, ASt.eval, ASt.put, ASt.set, ASt.new, Nat.reduceDiv, Nat.reduceAdd, Int.reduceToNat, absV, absC, scalar, alen, acap, conc, flats, live, blkOf, aload, rd, part?, afieldAddr, afield, aindexAddr, cellsOf, afill, places, abuild, optI, asliceV, asliceS, szOk, srcCells, aappend, acopy, astore, amakeSlice, abuildSlice, snapL, mapO, treeL, AVal.tree, AVal.flatT, isFlat, ares, isFz, afroz, afrozB, lookupA, lookupH, tops, if_true, if_false, reduceCtorEq, forall_const, ite_true, ite_false, implies_true, walkS, tabS, Tryd.results39, eq_true c1I]
  by_cases c2 : ∀ x ∈ xs, In12 x
  · exact ⟨numsT xs, .inr ⟨c1, c2, rfl⟩, den_ListText xs c1 c2⟩
  refine ⟨[], .inl rfl, ?_⟩
  obtain ⟨n, n1, n2, n3⟩ := ex_not_all c2
  have h0 : 0 < xs.length := by omega
  have c1I : ¬ (64 : Int) < (xs.length : Int) := by omega
  have c2I : ¬ (xs.length : Int) = 0 := by omega
  have c3 : ¬ xs.length = 0 := by omega
  have hz1 : (xs.length : Int) ≤ 9223372036854775807 := by omega
  have hz2 : (xs.length : Int) * ((16 : Nat) : Int) ≤ 281474976710656 := by omega
  refine den_of_awpG (ghs [] [27]) Tryd.func39 rfl (by kernel_rfl) (Nat.le_of_ble_eq_true rfl) (by simp only [treeL, AVal.tree, treeL_i, treeL_ints, treeL_u8, treeL_append, Bool.and_self, Bool.and_true, Bool.true_and]) (by first | rfl | simp only [treeL, AVal.tree, treeL_i, treeL_ints, treeL_u8, treeL_append, Bool.and_self, Bool.and_true, Bool.true_and]) mixed (by kernel_rfl) fun hl => ?_
  simp only [lensL, lens, lensL_i, lensL_mapC, maxI, and_true, true_and] at hl
  rw [Tryd.ntmps39]
  refine ex_start ?_
  simp (config := { maxSteps := 1000000 }) +decide only [NoH, Old, OldL, nilQ, nilA, asgn, nz, RechL, ReY, isNew, stepO, XPost, postN, XOk, updN, updU, isEff, avalue, aeff, ASt.eval, ASt.put, ASt.set, ASt.new, Nat.reduceDiv, Nat.reduceAdd, Int.reduceToNat, absV, absC, scalar, alen, acap, conc, flats, live, blkOf, aload, rd, part?, afieldAddr, afield, aindexAddr, cellsOf, afill, places, abuild, optI, asliceV, asliceS, szOk, srcCells, aappend, acopy, astore, amakeSlice, abuildSlice, snapL, mapO, treeL, AVal.tree, AVal.flatT, isFlat, ares, isFz, afroz, afrozB, lookupA, lookupH, tops, if_true, if_false, reduceCtorEq, forall_const, ite_true, ite_false, implies_true, walkS, tabS, Tryd.results39, eq_false c1I, eq_false c2I, eq_false c3, eq_true hz1, eq_true hz2, List.flatten_nil]
  refine ex_loop (fun p : {p : List (List UInt8) × Nat × Nat // p.1.length ≤ n} => mkG (ghs [] [27]) [(3, .own 14 p.1.2.1 0 p.1.1.length), (15, ints xs), (16, .i xs.length), (17, .i p.1.1.length)] [(14, ⟨p.1.2.1, 1, mapC AVal.t p.1.1⟩)] p.1.2.2 32) (fun p => n - p.1.1.length) ⟨([], 0, 1), Nat.zero_le _⟩ ?_ ?_
  · refine weak_mk rfl (by first | exact Nat.le_refl _ | (simp only [mk_gen]; omega)) ?_ ?_ <;> simp +decide only [w_lookup_nil, w_lookup_cons, ch_ch, ch_lit, lit_ch, wkT, wkH, wkB, WVL, WV_refl', Int.natCast_zero, Int.natCast_add, Int.natCast_one, Nat.sub_self, Nat.sub_zero, List.replicate_zero, List.take_zero, List.nil_append, List.append_nil, fillC_zero, Nat.reduceDiv, Nat.reduceAdd, upd_bk, bk_at, getB_zero, getB_succ, modB_zero, modB_succ, rows_lit, repB_zero, repB_succ, List.length_cons, List.length_nil, upd_upd_same, upd_apply, mk_tmp, mk_heap, mk_gen, lookupA, lookupH, List.getD_cons_zero, List.getD_cons_succ, init_two, tops, Bool.true_and, and_self, and_true, true_and, true_or, if_true, if_false, ite_true, ite_false, reduceCtorEq, reduceIte, mapC_nil, List.length_nil]
  rintro ⟨⟨L, g, G⟩, j1⟩
  have j1' : L.length ≤ n := j1
  have hlt : L.length < xs.length := by omega
  have hltI : (L.length : Int) < (xs.length : Int) := by omega
  by_cases hn : L.length < n
  · have wk : IntKind.i64.wrap ((L.length : Int) + 1) = ((L.length + 1 : Nat) : Int) := wrap64 (by omega) (by omega)
    have tk : L.take L.length = L := List.take_length
    have h16 : (L.length + 1) * 16 ≤ 140737488355328 := by omega
    have sn : mapC AVal.t L ++ [AVal.t (Lib.itoa xs[L.length])] = mapC AVal.t (L ++ [Lib.itoa xs[L.length]]) := mapC_snoc ..
    obtain ⟨b1, b2⟩ := n2 L.length hlt hn
    have hb' : -1000000000000 ≤ xs[L.length] ∧ xs[L.length] ≤ 1000000000000 := ⟨b1, b2⟩
    simp (config := { maxSteps := 1000000 }) +decide only [NoH, Old, OldL, nilQ, nilA, asgn, nz, RechL, ReY, isNew, stepO, XPost, postN, XOk, updN, updU, isEff, avalue, aeff, ASt.eval, ASt.put, ASt.set, ASt.new, Nat.reduceDiv, Nat.reduceAdd, Int.reduceToNat, absV, absC, scalar, alen, acap, conc, flats, live, blkOf, aload, rd, part?, afieldAddr, afield, aindexAddr, cellsOf, afill, places, abuild, optI, asliceV, asliceS, szOk, srcCells, aappend, acopy, astore, amakeSlice, abuildSlice, snapL, mapO, treeL, AVal.tree, AVal.flatT, isFlat, ares, isFz, afroz, afrozB, lookupA, lookupH, tops, if_true, if_false, reduceCtorEq, forall_const, ite_true, ite_false, implies_true, walkS, tabS, Tryd.results39, eq_true hltI, hlt]
    refine callK (den_within xs[L.length] (-1000000000000) 1000000000000) (by first | exact .inl rfl | exact .inr rfl) ?_
    simp (config := { maxSteps := 1000000 }) +decide only [NoH, Old, OldL, nilQ, nilA, asgn, nz, RechL, ReY, isNew, stepO, XPost, postN, XOk, updN, updU, isEff, avalue, aeff, ASt.eval, ASt.put, ASt.set, ASt.new, Nat.reduceDiv, Nat.reduceAdd, Int.reduceToNat, absV, absC, scalar, alen, acap, conc, flats, live, blkOf, aload, rd, part?, afieldAddr, afield, aindexAddr, cellsOf, afill, places, abuild, optI, asliceV, asliceS, szOk, srcCells, aappend, acopy, astore, amakeSlice, abuildSlice, snapL, mapO, treeL, AVal.tree, AVal.flatT, isFlat, ares, isFz, afroz, afrozB, lookupA, lookupH, tops, if_true, if_false, reduceCtorEq, forall_const, ite_true, ite_false, implies_true, walkS, tabS, Tryd.results39, eq_true hb', hlt]
    refine callK (den_Decimal xs[L.length] (by omega) (by omega)) (by first | exact .inl rfl | exact .inr rfl) ?_
    simp (config := { maxSteps := 1000000 }) +decide only [NoH, Old, OldL, nilQ, nilA, asgn, nz, RechL, ReY, isNew, stepO, XPost, postN, XOk, updN, updU, isEff, avalue, aeff, ASt.eval, ASt.put, ASt.set, ASt.new, Nat.reduceDiv, Nat.reduceAdd, Int.reduceToNat, absV, absC, scalar, alen, acap, conc, flats, live, blkOf, aload, rd, part?, afieldAddr, afield, aindexAddr, cellsOf, afill, places, abuild, optI, asliceV, asliceS, szOk, srcCells, aappend, acopy, astore, amakeSlice, abuildSlice, snapL, mapO, treeL, AVal.tree, AVal.flatT, isFlat, ares, isFz, afroz, afrozB, lookupA, lookupH, tops, if_true, if_false, reduceCtorEq, forall_const, ite_true, ite_false, implies_true, walkS, tabS, Tryd.results39, wk, tk, h16, sn, List.replicate_succ, List.flatten_cons, List.flatten_nil]
    refine ⟨⟨(L ++ [Lib.itoa xs[L.length]], G, G + 1), by show (L ++ [_]).length ≤ n; simp; omega⟩, ?_, by show n - (L ++ [_]).length < n - L.length; simp; omega⟩
    refine weak_mk rfl (by first | exact Nat.le_refl _ | (simp only [mk_gen]; omega)) ?_ ?_ <;> simp +decide only [w_lookup_nil, w_lookup_cons, ch_ch, ch_lit, lit_ch, wkT, wkH, wkB, WVL, WV_refl', Int.natCast_zero, Int.natCast_add, Int.natCast_one, Nat.sub_self, Nat.sub_zero, List.replicate_zero, List.take_zero, List.nil_append, List.append_nil, fillC_zero, Nat.reduceDiv, Nat.reduceAdd, upd_bk, bk_at, getB_zero, getB_succ, modB_zero, modB_succ, rows_lit, repB_zero, repB_succ, List.length_cons, List.length_nil, upd_upd_same, upd_apply, mk_tmp, mk_heap, mk_gen, lookupA, lookupH, List.getD_cons_zero, List.getD_cons_succ, init_two, tops, Bool.true_and, and_self, and_true, true_and, true_or, if_true, if_false, ite_true, ite_false, reduceCtorEq, reduceIte, List.length_append, List.length_cons, List.length_nil, Nat.zero_add]
  have en : L.length = n := by omega
  have hb' : ¬ (-1000000000000 ≤ xs[L.length] ∧ xs[L.length] ≤ 1000000000000) := fun k => by
    subst en
    exact n3 n1 k
  simp (config := { maxSteps := 1000000 }) +decide only [NoH, Old, OldL, nilQ, nilA, asgn, nz, RechL, ReY, isNew, stepO, XPost, postN, XOk, updN, updU, isEff, avalue, aeff, ASt.eval, ASt.put, ASt.set, ASt.new, Nat.reduceDiv, Nat.reduceAdd, Int.reduceToNat, absV, absC, scalar, alen, acap, conc, flats, live, blkOf, aload, rd, part?, afieldAddr, afield, aindexAddr, cellsOf, afill, places, abuild, optI, asliceV, asliceS, szOk, srcCells, aappend, acopy, astore, amakeSlice, abuildSlice, snapL, mapO, treeL, AVal.tree, AVal.flatT, isFlat, ares, isFz, afroz, afrozB, lookupA, lookupH, tops, if_true, if_false, reduceCtorEq, forall_const, ite_true, ite_false, implies_true, walkS, tabS, Tryd.results39, eq_true hltI, hlt]
  refine callK (den_within xs[L.length] (-1000000000000) 1000000000000) (by first | exact .inl rfl | exact .inr rfl) ?_
  simp (config := { maxSteps := 1000000 }) +decide only [NoH, Old, OldL, nilQ, nilA, asgn, nz, RechL, ReY, isNew, stepO, XPost, postN, XOk, updN, updU, isEff, avalue, aeff, ASt.eval, ASt.put, ASt.set, ASt.new, Nat.reduceDiv, Nat.reduceAdd, Int.reduceToNat, absV, absC, scalar, alen, acap, conc, flats, live, blkOf, aload, rd, part?, afieldAddr, afield, aindexAddr, cellsOf, afill, places, abuild, optI, asliceV, asliceS, szOk, srcCells, aappend, acopy, astore, amakeSlice, abuildSlice, snapL, mapO, treeL, AVal.tree, AVal.flatT, isFlat, ares, isFz, afroz, afrozB, lookupA, lookupH, tops, if_true, if_false, reduceCtorEq, forall_const, ite_true, ite_false, implies_true, walkS, tabS, Tryd.results39, eq_false hb']
end Go.Proofs.YtiaemddmkmfijaaDoor
