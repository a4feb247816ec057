/-
  OWN WORK: rasters as texts, and read back.
-/
import Derived.Test.YtiaemddmkmfijaaDoorRaC
import Derived.Test.YtiaemddmkmfijaaDoorGtA
import Derived.Test.YtiaemddmkmfijaaDoorTxG
namespace Go.Proofs.YtiaemddmkmfijaaDoor
open Go Go.Own Go.Proofs
set_option maxHeartbeats 4000000
set_option maxRecDepth 20000
set_option linter.unusedSimpArgs false
set_option linter.unusedVariables false
theorem ras_in12 {s w h : Int} {a la : List Int} (h1 : OkRas s w h a la) : (∀ x ∈ a, In12 x) ∧ ∀ x ∈ la, In12 x := by
  have e := h1.2.2.1
  constructor
  · intro x hx
    obtain ⟨i, hi, rfl⟩ := List.getElem_of_mem hx
    have := (h1.2.2.2 i hi (by omega)).1
    exact ⟨by omega, by omega⟩
  · intro x hx
    obtain ⟨i, hi, rfl⟩ := List.getElem_of_mem hx
    have := (h1.2.2.2 i (by omega) hi).2.1
    exact ⟨by omega, by omega⟩
theorem den_ListTextN {xs : List Int} {n : Nat} (hx : xs.length = n) (hn : n ≤ 64) (h : ∀ x ∈ xs, In12 x) : Den Tryd.prog 39 [.lst (mapC AVal.i xs) n] (.t (numsT xs)) := by
  subst hx
  exact den_ListText xs hn h
theorem den_ReadListN {xs : List Int} {n : Nat} (hx : xs.length = n) (h0 : 1 ≤ n) (hn : n ≤ 64) (h : ∀ x ∈ xs, In12 x) : Den Tryd.prog 64 [.t (numsT xs)] (.tup [.lst (mapC AVal.i xs) n, .b true]) := by
  subst hx
  exact den_ReadList xs (fun e => by rw [e] at h0; simp at h0) hn h
def wRas : List UInt8 := [114, 97, 115, 116, 101, 114]
theorem addT (a b : List UInt8) (h : a.length + b.length ≤ 1000000) (x y : Operand) : semS Tryd.prog (do eqGuard .add 9 x y (.string (bt a)) (.string (bt b)); binOp .add 9 (.string (bt a)) (.string (bt b))) = some (.flat (.string (bt (a ++ b)))) := sem_addT Tryd.prog 9 x y a b (by omega)
theorem den_RasterTextNo (s w h : Int) (hs cl : List Int) (hT : ¬ OkRas s w h hs cl) : Den Tryd.prog 10 [rasV s w h hs cl] (.t []) := by
  refine den_of_awpG (ghs [] [1]) Tryd.func10 rfl (by kernel_rfl) (Nat.le_of_ble_eq_true rfl) (by simp only [treeL, AVal.tree, treeL_i, treeL_ints, treeL_u8, treeL_append, Bool.and_self, Bool.and_true, Bool.true_and]) (by first | rfl | simp only [treeL, AVal.tree, treeL_i, treeL_ints, treeL_u8, treeL_append, Bool.and_self, Bool.and_true, Bool.true_and]) mixed (by kernel_rfl) fun hl => ?_
  simp only [lensL, lens, lensL_i, lensL_mapC, maxI, and_true, true_and] at hl
  rw [Tryd.ntmps10]
  refine ex_start ?_
  simp (config := { maxSteps := 1000000 }) +decide only [NoH, Old, OldL, nilQ, nilA, asgn, nz, RechL, ReY, isNew, stepO, XPost, postN, XOk, updN, updU, isEff, avalue, aeff, ASt.eval, ASt.put, ASt.set, ASt.new, Nat.reduceDiv, Nat.reduceAdd, Int.reduceToNat, absV, absC, scalar, alen, acap, conc, flats, live, blkOf, aload, rd, part?, afieldAddr, afield, aindexAddr, cellsOf, afill, places, abuild, optI, asliceV, asliceS, szOk, srcCells, aappend, acopy, astore, amakeSlice, abuildSlice, snapL, mapO, treeL, AVal.tree, AVal.flatT, isFlat, ares, isFz, afroz, afrozB, lookupA, lookupH, tops, if_true, if_false, reduceCtorEq, forall_const, ite_true, ite_false, implies_true, walkS, tabS, Tryd.results10]
  refine callK (den_ValidRaster s w h hs cl) (by first | exact .inl rfl | exact .inr rfl) ?_
  simp (config := { maxSteps := 1000000 }) +decide only [NoH, Old, OldL, nilQ, nilA, asgn, nz, RechL, ReY, isNew, stepO, XPost, postN, XOk, updN, updU, isEff, avalue, aeff, ASt.eval, ASt.put, ASt.set, ASt.new, Nat.reduceDiv, Nat.reduceAdd, Int.reduceToNat, absV, absC, scalar, alen, acap, conc, flats, live, blkOf, aload, rd, part?, afieldAddr, afield, aindexAddr, cellsOf, afill, places, abuild, optI, asliceV, asliceS, szOk, srcCells, aappend, acopy, astore, amakeSlice, abuildSlice, snapL, mapO, treeL, AVal.tree, AVal.flatT, isFlat, ares, isFz, afroz, afrozB, lookupA, lookupH, tops, if_true, if_false, reduceCtorEq, forall_const, ite_true, ite_false, implies_true, walkS, tabS, Tryd.results10, eq_false hT]
theorem den_RasterText (s : Int) (n m : Nat) (hs cl : List Int) (hT : OkRas s n m hs cl) : Den Tryd.prog 10 [rasV s n m hs cl] (.t (gridK wRas s n m hs cl n m)) := by
  have hz := hT.1
  have hl0 : hs.length = n * m := by have := hT.2.1; have e : ((n * m : Nat) : Int) = (n : Int) * m := Int.natCast_mul n m; omega
  have hc0 : cl.length = n * m := by have := hT.2.2.1; omega
  have ih := (ras_in12 hT).1
  have ic := (ras_in12 hT).2
  have s12 : In12 s := ⟨by have := hz.1; omega, by have := hz.1; omega⟩
  have n12 : In12 n := ⟨by omega, by have := hz.2.1; omega⟩
  have m12 : In12 m := ⟨by omega, by have := hz.2.2.1; omega⟩
  have n24 : n ≤ 24 := by have := hz.2.1; omega
  have m24 : m ≤ 24 := by have := hz.2.2.1; omega
  have bs1 := hz.1
  have bn1 := hz.2.1
  have bm1 := hz.2.2.1
  have i1 := itoa_len12 s12
  have i2 := itoa_len12 n12
  have i3 := itoa_len12 m12
  have gz := gridK_zero wRas s n m hs cl n
  have gl := gridK_len (word := wRas) (by decide) s12 n12 m12 hl0 hc0 ih ic n24
  have a1 := addT [114, 97, 115, 116, 101, 114, 32] (Lib.itoa s) (by simp; omega)
  have a2 := addT (114 :: 97 :: 115 :: 116 :: 101 :: 114 :: 32 :: (Lib.itoa s)) ([32]) (by simp; omega)
  have a3 := addT (114 :: 97 :: 115 :: 116 :: 101 :: 114 :: 32 :: (Lib.itoa s ++ [32])) (Lib.itoa n) (by simp; omega)
  have a4 := addT (114 :: 97 :: 115 :: 116 :: 101 :: 114 :: 32 :: (Lib.itoa s ++ [32] ++ Lib.itoa n)) ([32]) (by simp; omega)
  have a5 := addT (114 :: 97 :: 115 :: 116 :: 101 :: 114 :: 32 :: (Lib.itoa s ++ [32] ++ Lib.itoa n ++ [32])) (Lib.itoa m) (by simp; omega)
  have a6 := addT (114 :: 97 :: 115 :: 116 :: 101 :: 114 :: 32 :: (Lib.itoa s ++ [32] ++ Lib.itoa n ++ [32] ++ Lib.itoa m)) ([10]) (by simp; omega)
  have ez : (114 :: 97 :: 115 :: 116 :: 101 :: 114 :: 32 :: (Lib.itoa s ++ [32] ++ Lib.itoa n ++ [32] ++ Lib.itoa m ++ [10])) = gridK wRas s n m hs cl n 0 := by rw [gz]; rfl
  refine den_of_awpG (ghs [] [1]) Tryd.func10 rfl (by kernel_rfl) (Nat.le_of_ble_eq_true rfl) (by simp only [treeL, AVal.tree, treeL_i, treeL_ints, treeL_u8, treeL_append, Bool.and_self, Bool.and_true, Bool.true_and]) (by first | rfl | simp only [treeL, AVal.tree, treeL_i, treeL_ints, treeL_u8, treeL_append, Bool.and_self, Bool.and_true, Bool.true_and]) mixed (by kernel_rfl) fun hl => ?_
  simp only [lensL, lens, lensL_i, lensL_mapC, maxI, and_true, true_and] at hl
  rw [Tryd.ntmps10]
  refine ex_start ?_
  simp (config := { maxSteps := 1000000 }) +decide only [NoH, Old, OldL, nilQ, nilA, asgn, nz, RechL, ReY, isNew, stepO, XPost, postN, XOk, updN, updU, isEff, avalue, aeff, ASt.eval, ASt.put, ASt.set, ASt.new, Nat.reduceDiv, Nat.reduceAdd, Int.reduceToNat, absV, absC, scalar, alen, acap, conc, flats, live, blkOf, aload, rd, part?, afieldAddr, afield, aindexAddr, cellsOf, afill, places, abuild, optI, asliceV, asliceS, szOk, srcCells, aappend, acopy, astore, amakeSlice, abuildSlice, snapL, mapO, treeL, AVal.tree, AVal.flatT, isFlat, ares, isFz, afroz, afrozB, lookupA, lookupH, tops, if_true, if_false, reduceCtorEq, forall_const, ite_true, ite_false, implies_true, walkS, tabS, Tryd.results10]
  refine callK (den_ValidRaster s n m hs cl) (by first | exact .inl rfl | exact .inr rfl) ?_
  simp (config := { maxSteps := 1000000 }) +decide only [NoH, Old, OldL, nilQ, nilA, asgn, nz, RechL, ReY, isNew, stepO, XPost, postN, XOk, updN, updU, isEff, avalue, aeff, ASt.eval, ASt.put, ASt.set, ASt.new, Nat.reduceDiv, Nat.reduceAdd, Int.reduceToNat, absV, absC, scalar, alen, acap, conc, flats, live, blkOf, aload, rd, part?, afieldAddr, afield, aindexAddr, cellsOf, afill, places, abuild, optI, asliceV, asliceS, szOk, srcCells, aappend, acopy, astore, amakeSlice, abuildSlice, snapL, mapO, treeL, AVal.tree, AVal.flatT, isFlat, ares, isFz, afroz, afrozB, lookupA, lookupH, tops, if_true, if_false, reduceCtorEq, forall_const, ite_true, ite_false, implies_true, walkS, tabS, Tryd.results10, eq_true hT]
  refine callK (den_Decimal s (by omega) (by omega)) (by first | exact .inl rfl | exact .inr rfl) ?_
  simp (config := { maxSteps := 1000000 }) +decide only [NoH, Old, OldL, nilQ, nilA, asgn, nz, RechL, ReY, isNew, stepO, XPost, postN, XOk, updN, updU, isEff, avalue, aeff, ASt.eval, ASt.put, ASt.set, ASt.new, Nat.reduceDiv, Nat.reduceAdd, Int.reduceToNat, absV, absC, scalar, alen, acap, conc, flats, live, blkOf, aload, rd, part?, afieldAddr, afield, aindexAddr, cellsOf, afill, places, abuild, optI, asliceV, asliceS, szOk, srcCells, aappend, acopy, astore, amakeSlice, abuildSlice, snapL, mapO, treeL, AVal.tree, AVal.flatT, isFlat, ares, isFz, afroz, afrozB, lookupA, lookupH, tops, if_true, if_false, reduceCtorEq, forall_const, ite_true, ite_false, implies_true, walkS, tabS, Tryd.results10, a1, a2]
  refine callK (den_Decimal n (by omega) (by omega)) (by first | exact .inl rfl | exact .inr rfl) ?_
  simp (config := { maxSteps := 1000000 }) +decide only [NoH, Old, OldL, nilQ, nilA, asgn, nz, RechL, ReY, isNew, stepO, XPost, postN, XOk, updN, updU, isEff, avalue, aeff, ASt.eval, ASt.put, ASt.set, ASt.new, Nat.reduceDiv, Nat.reduceAdd, Int.reduceToNat, absV, absC, scalar, alen, acap, conc, flats, live, blkOf, aload, rd, part?, afieldAddr, afield, aindexAddr, cellsOf, afill, places, abuild, optI, asliceV, asliceS, szOk, srcCells, aappend, acopy, astore, amakeSlice, abuildSlice, snapL, mapO, treeL, AVal.tree, AVal.flatT, isFlat, ares, isFz, afroz, afrozB, lookupA, lookupH, tops, if_true, if_false, reduceCtorEq, forall_const, ite_true, ite_false, implies_true, walkS, tabS, Tryd.results10, a1, a2, a3, a4]
  refine callK (den_Decimal m (by omega) (by omega)) (by first | exact .inl rfl | exact .inr rfl) ?_
  simp (config := { maxSteps := 1000000 }) +decide only [NoH, Old, OldL, nilQ, nilA, asgn, nz, RechL, ReY, isNew, stepO, XPost, postN, XOk, updN, updU, isEff, avalue, aeff, ASt.eval, ASt.put, ASt.set, ASt.new, Nat.reduceDiv, Nat.reduceAdd, Int.reduceToNat, absV, absC, scalar, alen, acap, conc, flats, live, blkOf, aload, rd, part?, afieldAddr, afield, aindexAddr, cellsOf, afill, places, abuild, optI, asliceV, asliceS, szOk, srcCells, aappend, acopy, astore, amakeSlice, abuildSlice, snapL, mapO, treeL, AVal.tree, AVal.flatT, isFlat, ares, isFz, afroz, afrozB, lookupA, lookupH, tops, if_true, if_false, reduceCtorEq, forall_const, ite_true, ite_false, implies_true, walkS, tabS, Tryd.results10, a1, a2, a3, a4, a5, a6, ez]
  refine ex_loop (fun k : {k : Nat // k ≤ m} => mkG (ghs [] [1]) [(1, rasP s n m hs cl), (3, .t (gridK wRas s n m hs cl n k.1)), (25, .i m), (26, .i k.1)] [] 0 58) (fun k => m - k.1) ⟨0, Nat.zero_le _⟩ ?_ ?_
  · refine weak_mk rfl (by first | exact Nat.le_refl _ | (simp only [mk_gen]; omega)) ?_ ?_ <;> simp +decide only [w_lookup_nil, w_lookup_cons, ch_ch, ch_lit, lit_ch, wkT, wkH, wkB, WVL, WV_refl', Int.natCast_zero, Int.natCast_add, Int.natCast_one, Nat.sub_self, Nat.sub_zero, List.replicate_zero, List.take_zero, List.nil_append, List.append_nil, fillC_zero, Nat.reduceDiv, Nat.reduceAdd, upd_bk, bk_at, getB_zero, getB_succ, modB_zero, modB_succ, rows_lit, repB_zero, repB_succ, List.length_cons, List.length_nil, upd_upd_same, upd_apply, mk_tmp, mk_heap, mk_gen, lookupA, lookupH, List.getD_cons_zero, List.getD_cons_succ, init_two, tops, Bool.true_and, and_self, and_true, true_and, true_or, if_true, if_false, ite_true, ite_false, reduceCtorEq, reduceIte]
  rintro ⟨k, k1⟩
  have k1' : k ≤ m := k1
  by_cases hlt : k < m
  case neg =>
    have e : k = m := by omega
    subst e
    have hltI : ¬ (k : Int) < (k : Int) := by omega
    simp (config := { maxSteps := 1000000 }) +decide only [NoH, Old, OldL, nilQ, nilA, asgn, nz, RechL, ReY, isNew, stepO, XPost, postN, XOk, updN, updU, isEff, avalue, aeff, ASt.eval, ASt.put, ASt.set, ASt.new, Nat.reduceDiv, Nat.reduceAdd, Int.reduceToNat, absV, absC, scalar, alen, acap, conc, flats, live, blkOf, aload, rd, part?, afieldAddr, afield, aindexAddr, cellsOf, afill, places, abuild, optI, asliceV, asliceS, szOk, srcCells, aappend, acopy, astore, amakeSlice, abuildSlice, snapL, mapO, treeL, AVal.tree, AVal.flatT, isFlat, ares, isFz, afroz, afrozB, lookupA, lookupH, tops, if_true, if_false, reduceCtorEq, forall_const, ite_true, ite_false, implies_true, walkS, tabS, Tryd.results10, eq_false hltI]
  have hltI : (k : Int) < (m : Int) := by omega
  have wk : IntKind.i64.wrap ((k : Int) + 1) = ((k + 1 : Nat) : Int) := wrap64 (by omega) (by omega)
  have km : (k + 1) * n ≤ m * n := Nat.mul_le_mul_right n hlt
  rw [Nat.succ_mul, Nat.mul_comm m n] at km
  have nm : n * m ≤ 24 * 24 := Nat.mul_le_mul n24 m24
  have ek : (k : Int) * (n : Int) = ((k * n : Nat) : Int) := (Int.natCast_mul k n).symm
  have q1 : IntKind.i64.wrap ((k : Int) * (n : Int)) = ((k * n : Nat) : Int) := (wrap64 (by omega) (by omega)).trans ek
  have q2 : IntKind.i64.wrap (((k * n : Nat) : Int) + (n : Int)) = ((k * n + n : Nat) : Int) := wrap64 (by omega) (by omega)
  have jn : k * n + n - k * n = n := by omega
  have jle : k * n ≤ k * n + n := by omega
  have jh : k * n + n ≤ hs.length := by omega
  have jc : k * n + n ≤ cl.length := by omega
  have er : List.take n (List.drop (k * n) hs) = rowL hs n k := rfl
  have er' : List.take n (List.drop (k * n) cl) = rowL cl n k := rfl
  have d1 := den_ListTextN (rowL_len hl0 hlt) (by omega) (rowL_in ih)
  have d2 := den_ListTextN (rowL_len hc0 hlt) (by omega) (rowL_in ic)
  have ⟨r1, r2⟩ := rowT_len hl0 hc0 hlt ih ic n24
  have g0 := gl k (by omega)
  have gs := gridK_snoc wRas s n m hs cl n k
  obtain ⟨Z, hZ⟩ : ∃ Z, gridK wRas s n m hs cl n (k + 1) = Z := ⟨_, rfl⟩
  rw [hZ] at gs
  generalize gridK wRas s n m hs cl n k = X at *
  generalize numsT (rowL hs n k) = A at *
  generalize numsT (rowL cl n k) = B at *
  have b1 := addT A [32] (by simp; omega)
  have b2 := addT (A ++ [32]) B (by simp; omega)
  have b3 := addT (A ++ [32] ++ B) [10] (by simp; omega)
  have b4 := addT X (A ++ [32] ++ B ++ [10]) (by simp; omega)
  simp (config := { maxSteps := 1000000 }) +decide only [NoH, Old, OldL, nilQ, nilA, asgn, nz, RechL, ReY, isNew, stepO, XPost, postN, XOk, updN, updU, isEff, avalue, aeff, ASt.eval, ASt.put, ASt.set, ASt.new, Nat.reduceDiv, Nat.reduceAdd, Int.reduceToNat, absV, absC, scalar, alen, acap, conc, flats, live, blkOf, aload, rd, part?, afieldAddr, afield, aindexAddr, cellsOf, afill, places, abuild, optI, asliceV, asliceS, szOk, srcCells, aappend, acopy, astore, amakeSlice, abuildSlice, snapL, mapO, treeL, AVal.tree, AVal.flatT, isFlat, ares, isFz, afroz, afrozB, lookupA, lookupH, tops, if_true, if_false, reduceCtorEq, forall_const, ite_true, ite_false, implies_true, walkS, tabS, Tryd.results10, eq_true hltI, q1, q2, jn, jle, jh, jc, er]
  refine callK (d1) (by first | exact .inl rfl | exact .inr rfl) ?_
  simp (config := { maxSteps := 1000000 }) +decide only [NoH, Old, OldL, nilQ, nilA, asgn, nz, RechL, ReY, isNew, stepO, XPost, postN, XOk, updN, updU, isEff, avalue, aeff, ASt.eval, ASt.put, ASt.set, ASt.new, Nat.reduceDiv, Nat.reduceAdd, Int.reduceToNat, absV, absC, scalar, alen, acap, conc, flats, live, blkOf, aload, rd, part?, afieldAddr, afield, aindexAddr, cellsOf, afill, places, abuild, optI, asliceV, asliceS, szOk, srcCells, aappend, acopy, astore, amakeSlice, abuildSlice, snapL, mapO, treeL, AVal.tree, AVal.flatT, isFlat, ares, isFz, afroz, afrozB, lookupA, lookupH, tops, if_true, if_false, reduceCtorEq, forall_const, ite_true, ite_false, implies_true, walkS, tabS, Tryd.results10, b1, q1, q2, jn, jle, jh, jc, er']
  refine callK (d2) (by first | exact .inl rfl | exact .inr rfl) ?_
  simp (config := { maxSteps := 1000000 }) +decide only [NoH, Old, OldL, nilQ, nilA, asgn, nz, RechL, ReY, isNew, stepO, XPost, postN, XOk, updN, updU, isEff, avalue, aeff, ASt.eval, ASt.put, ASt.set, ASt.new, Nat.reduceDiv, Nat.reduceAdd, Int.reduceToNat, absV, absC, scalar, alen, acap, conc, flats, live, blkOf, aload, rd, part?, afieldAddr, afield, aindexAddr, cellsOf, afill, places, abuild, optI, asliceV, asliceS, szOk, srcCells, aappend, acopy, astore, amakeSlice, abuildSlice, snapL, mapO, treeL, AVal.tree, AVal.flatT, isFlat, ares, isFz, afroz, afrozB, lookupA, lookupH, tops, if_true, if_false, reduceCtorEq, forall_const, ite_true, ite_false, implies_true, walkS, tabS, Tryd.results10, b1, b2, b3, b4, gs, wk]
  refine ⟨⟨k + 1, hlt⟩, ?_, by show m - (k + 1) < m - k; omega⟩
  refine weak_mk rfl (by first | exact Nat.le_refl _ | (simp only [mk_gen]; omega)) ?_ ?_ <;> simp +decide only [w_lookup_nil, w_lookup_cons, ch_ch, ch_lit, lit_ch, wkT, wkH, wkB, WVL, WV_refl', Int.natCast_zero, Int.natCast_add, Int.natCast_one, Nat.sub_self, Nat.sub_zero, List.replicate_zero, List.take_zero, List.nil_append, List.append_nil, fillC_zero, Nat.reduceDiv, Nat.reduceAdd, upd_bk, bk_at, getB_zero, getB_succ, modB_zero, modB_succ, rows_lit, repB_zero, repB_succ, List.length_cons, List.length_nil, upd_upd_same, upd_apply, mk_tmp, mk_heap, mk_gen, lookupA, lookupH, List.getD_cons_zero, List.getD_cons_succ, init_two, tops, Bool.true_and, and_self, and_true, true_and, true_or, if_true, if_false, ite_true, ite_false, reduceCtorEq, reduceIte, hZ]
def threeL (s n m : Int) : List Int := [s, n, m]
def threeT (s n m : Int) : List (List UInt8) := [Lib.itoa s, Lib.itoa n, Lib.itoa m]
def threeK (s n m : Int) (k : Nat) : List Int := (threeL s n m).take k ++ List.replicate (3 - k) 0
theorem three_cases {k : Nat} (h : k < 3) : k = 0 ∨ k = 1 ∨ k = 2 := by omega
theorem threeT_at (s n m : Int) {k : Nat} (h : k < 3) : (mapC AVal.t (threeT s n m))[k]? = some (.t (Lib.itoa ((threeL s n m).getD k 0))) := by
  rcases three_cases h with rfl | rfl | rfl <;> rfl
theorem threeK_set (s n m : Int) {k : Nat} (h : k < 3) (v : Int) (hv : (threeL s n m).getD k 0 = v) : lay (mapC AVal.i (threeK s n m k)) k [.i v] = mapC AVal.i (threeK s n m (k + 1)) := by
  subst hv
  rcases three_cases h with rfl | rfl | rfl <;> rfl
theorem threeK_len (s n m : Int) {k : Nat} (h : k ≤ 3) : (mapC AVal.i (threeK s n m k)).length = 3 := by
  simp [mapC, threeK, threeL]
  omega
theorem den_Lines {word : List UInt8} (hw : (10 : UInt8) ∉ word) (s w h : Int) (A B : List Int) (n k : Nat) (hk : k ≤ 24) (hl : (gridK word s w h A B n k).length ≤ 1000000) : Den Tryd.prog 60 [.t (gridK word s w h A B n k), .t [10], .i 26] (.lst (mapC AVal.t (linesT word s w h A B n k)) (k + 2)) := by
  have d := den_SplitN (gridK word s w h A B n k) 10 26 (by omega) (by omega) (by omega)
  have ll := linesT_len word s w h A B n k
  have e := gridK_lines word s w h A B n k
  have jl := join_length (linesT word s w h A B n k) 10
  rw [← e] at jl
  have sp := splitK_join (c := 10) (linesT word s w h A B n k) (min 26 ((gridK word s w h A B n k).length + 1) - 1) (by unfold linesT; simp) (linesT_10 hw s w h A B n k) (by omega)
  rw [← e] at sp
  rw [sp] at d
  have : strs (linesT word s w h A B n k) = .lst (mapC AVal.t (linesT word s w h A B n k)) (k + 2) := by
    show AVal.lst _ _ = _
    rw [ll]
  rw [← this]
  exact d
theorem den_ReadRaster (s : Int) (n m : Nat) (hs cl : List Int) (hT : OkRas s n m hs cl) : Den Tryd.prog 21 [.t (gridK wRas s n m hs cl n m)] (.tup [rasV s n m hs cl, .b true]) := by
  have hz := hT.1
  have hl0 : hs.length = n * m := by have := hT.2.1; have e : ((n * m : Nat) : Int) = (n : Int) * m := Int.natCast_mul n m; omega
  have hc0 : cl.length = n * m := by have := hT.2.2.1; omega
  have ih := (ras_in12 hT).1
  have ic := (ras_in12 hT).2
  have s12 : In12 s := ⟨by have := hz.1; omega, by have := hz.1; omega⟩
  have n12 : In12 n := ⟨by omega, by have := hz.2.1; omega⟩
  have m12 : In12 m := ⟨by omega, by have := hz.2.2.1; omega⟩
  have n24 : n ≤ 24 := by have := hz.2.1; omega
  have m24 : m ≤ 24 := by have := hz.2.2.1; omega
  have n1 : 1 ≤ n := by have := hz.2.1; omega
  have gl := gridK_len (word := wRas) (by decide) s12 n12 m12 hl0 hc0 ih ic n24 m (Nat.le_refl _)
  have dL := den_Lines (word := wRas) (by decide) s n m hs cl n m m24 (by omega)
  have dH := den_Split (headF wRas s n m) 32 (by unfold headF; simp) (headF_32 (by decide) s n m) (by
    show (headT wRas s n m).length < _
    rw [headT_eq]
    have i1 := itoa_len12 s12
    have i2 := itoa_len12 n12
    have i3 := itoa_len12 m12
    simp [wRas]
    omega)
  have dT := den_RasterText s n m hs cl hT
  have gne : ¬ gridK wRas s n m hs cl n m = [] := by
    rw [gridK_lines]
    unfold linesT
    rw [List.cons_append, Lib.join_cons, headT_eq]
    simp [wRas]
  generalize gridK wRas s n m hs cl n m = T at *
  have h0 : (mapC AVal.t (linesT wRas s n m hs cl n m))[0]? = some (.t (Lib.join (headF wRas s n m) [32])) := rfl
  have lF : (headF wRas s n m).length = 4 := rfl
  have e4 : List.take (4 - 1) (List.drop 1 (headF wRas s n m)) = threeT s n m := rfl
  have e5 : (4 - 1 : Nat) = 3 := rfl
  refine den_of_awpG (ghs [] []) Tryd.func21 rfl (by kernel_rfl) (Nat.le_of_ble_eq_true rfl) (by simp only [treeL, AVal.tree, treeL_i, treeL_ints, treeL_u8, treeL_append, Bool.and_self, Bool.and_true, Bool.true_and]) (by first | rfl | simp only [treeL, AVal.tree, treeL_i, treeL_ints, treeL_u8, treeL_append, Bool.and_self, Bool.and_true, Bool.true_and]) mixed (by kernel_rfl) fun hl => ?_
  simp only [lensL, lens, lensL_i, lensL_mapC, maxI, and_true, true_and] at hl
  rw [Tryd.ntmps21]
  refine ex_start ?_
  simp (config := { maxSteps := 1000000 }) +decide only [NoH, Old, OldL, nilQ, nilA, asgn, nz, RechL, ReY, isNew, stepO, XPost, postN, XOk, updN, updU, isEff, avalue, aeff, ASt.eval, ASt.put, ASt.set, ASt.new, Nat.reduceDiv, Nat.reduceAdd, Int.reduceToNat, absV, absC, scalar, alen, acap, conc, flats, live, blkOf, aload, rd, part?, afieldAddr, afield, aindexAddr, cellsOf, afill, places, abuild, optI, asliceV, asliceS, szOk, srcCells, aappend, acopy, astore, amakeSlice, abuildSlice, snapL, mapO, treeL, AVal.tree, AVal.flatT, isFlat, ares, isFz, afroz, afrozB, lookupA, lookupH, tops, if_true, if_false, reduceCtorEq, forall_const, ite_true, ite_false, implies_true, walkS, tabS, Tryd.results21]
  refine callK (dL) (by first | exact .inl rfl | exact .inr rfl) ?_
  have ll := linesT_len wRas s n m hs cl n m
  have p0 : 0 < m + 2 := by omega
  have p0I : (0 : Int) < ((m + 2 : Nat) : Int) := by omega
  simp (config := { maxSteps := 1000000 }) +decide only [NoH, Old, OldL, nilQ, nilA, asgn, nz, RechL, ReY, isNew, stepO, XPost, postN, XOk, updN, updU, isEff, avalue, aeff, ASt.eval, ASt.put, ASt.set, ASt.new, Nat.reduceDiv, Nat.reduceAdd, Int.reduceToNat, absV, absC, scalar, alen, acap, conc, flats, live, blkOf, aload, rd, part?, afieldAddr, afield, aindexAddr, cellsOf, afill, places, abuild, optI, asliceV, asliceS, szOk, srcCells, aappend, acopy, astore, amakeSlice, abuildSlice, snapL, mapO, treeL, AVal.tree, AVal.flatT, isFlat, ares, isFz, afroz, afrozB, lookupA, lookupH, tops, if_true, if_false, reduceCtorEq, forall_const, ite_true, ite_false, implies_true, walkS, tabS, Tryd.results21, h0, ll, p0, p0I]
  refine callK (dH) (by first | exact .inl rfl | exact .inr rfl) ?_
  simp (config := { maxSteps := 1000000 }) +decide only [NoH, Old, OldL, nilQ, nilA, asgn, nz, RechL, ReY, isNew, stepO, XPost, postN, XOk, updN, updU, isEff, avalue, aeff, ASt.eval, ASt.put, ASt.set, ASt.new, Nat.reduceDiv, Nat.reduceAdd, Int.reduceToNat, absV, absC, scalar, alen, acap, conc, flats, live, blkOf, aload, rd, part?, afieldAddr, afield, aindexAddr, cellsOf, afill, places, abuild, optI, asliceV, asliceS, szOk, srcCells, aappend, acopy, astore, amakeSlice, abuildSlice, snapL, mapO, treeL, AVal.tree, AVal.flatT, isFlat, ares, isFz, afroz, afrozB, lookupA, lookupH, tops, if_true, if_false, reduceCtorEq, forall_const, ite_true, ite_false, implies_true, walkS, tabS, Tryd.results21, lF, e4, e5]
  refine ex_loop (fun k : {k : Nat // k ≤ 3} => mkG (ghs [] []) [(0, .t T), (2, .ptr 2 0 0), (4, .lst (mapC AVal.t (linesT wRas s n m hs cl n m)) (m + 2)), (6, .ptr 6 1 0), (30, .lst (mapC AVal.t (threeT s n m)) 3), (31, .i (3 : Nat)), (32, .i k.1)] [(2, ⟨0, 5, [.i 0, .i 0, .i 0, .nl, .nl]⟩), (6, ⟨1, 3, mapC AVal.i (threeK s n m k.1)⟩)] 2 96) (fun k => 3 - k.1) ⟨0, Nat.zero_le _⟩ ?_ ?_
  · have e0 : mapC AVal.i (threeK s n m 0) = [.i 0, .i 0, .i 0] := rfl
    refine weak_mk rfl (by first | exact Nat.le_refl _ | (simp only [mk_gen]; omega)) ?_ ?_ <;> simp +decide only [w_lookup_nil, w_lookup_cons, ch_ch, ch_lit, lit_ch, wkT, wkH, wkB, WVL, WV_refl', Int.natCast_zero, Int.natCast_add, Int.natCast_one, Nat.sub_self, Nat.sub_zero, List.replicate_zero, List.take_zero, List.nil_append, List.append_nil, fillC_zero, Nat.reduceDiv, Nat.reduceAdd, upd_bk, bk_at, getB_zero, getB_succ, modB_zero, modB_succ, rows_lit, repB_zero, repB_succ, List.length_cons, List.length_nil, upd_upd_same, upd_apply, mk_tmp, mk_heap, mk_gen, lookupA, lookupH, List.getD_cons_zero, List.getD_cons_succ, init_two, tops, Bool.true_and, and_self, and_true, true_and, true_or, if_true, if_false, ite_true, ite_false, reduceCtorEq, reduceIte, e0]
  rintro ⟨k, k1⟩
  have k1' : k ≤ 3 := k1
  by_cases hlt : k < 3
  · have hltI : (k : Int) < ((3 : Nat) : Int) := by omega
    have hlt3 : (k : Int) < 3 := by omega
    have wk : IntKind.i64.wrap ((k : Int) + 1) = ((k + 1 : Nat) : Int) := wrap64 (by omega) (by omega)
    have ct := threeT_at s n m hlt
    have lk := threeK_len s n m k1'
    have hlf : k < (threeT s n m).length := hlt
    have bv : In18 ((threeL s n m).getD k 0) := by
      rcases three_cases hlt with rfl | rfl | rfl
      · exact in12 s12
      · exact in12 n12
      · exact in12 m12
    have st := threeK_set s n m hlt _ rfl
    generalize (threeL s n m).getD k 0 = v at *
    simp (config := { maxSteps := 1000000 }) +decide only [NoH, Old, OldL, nilQ, nilA, asgn, nz, RechL, ReY, isNew, stepO, XPost, postN, XOk, updN, updU, isEff, avalue, aeff, ASt.eval, ASt.put, ASt.set, ASt.new, Nat.reduceDiv, Nat.reduceAdd, Int.reduceToNat, absV, absC, scalar, alen, acap, conc, flats, live, blkOf, aload, rd, part?, afieldAddr, afield, aindexAddr, cellsOf, afill, places, abuild, optI, asliceV, asliceS, szOk, srcCells, aappend, acopy, astore, amakeSlice, abuildSlice, snapL, mapO, treeL, AVal.tree, AVal.flatT, isFlat, ares, isFz, afroz, afrozB, lookupA, lookupH, tops, if_true, if_false, reduceCtorEq, forall_const, ite_true, ite_false, implies_true, walkS, tabS, Tryd.results21, eq_true hltI, hlt, hlf, ct]
    refine callK (den_ReadDecimal v bv) (by first | exact .inl rfl | exact .inr rfl) ?_
    simp (config := { maxSteps := 1000000 }) +decide only [NoH, Old, OldL, nilQ, nilA, asgn, nz, RechL, ReY, isNew, stepO, XPost, postN, XOk, updN, updU, isEff, avalue, aeff, ASt.eval, ASt.put, ASt.set, ASt.new, Nat.reduceDiv, Nat.reduceAdd, Int.reduceToNat, absV, absC, scalar, alen, acap, conc, flats, live, blkOf, aload, rd, part?, afieldAddr, afield, aindexAddr, cellsOf, afill, places, abuild, optI, asliceV, asliceS, szOk, srcCells, aappend, acopy, astore, amakeSlice, abuildSlice, snapL, mapO, treeL, AVal.tree, AVal.flatT, isFlat, ares, isFz, afroz, afrozB, lookupA, lookupH, tops, if_true, if_false, reduceCtorEq, forall_const, ite_true, ite_false, implies_true, walkS, tabS, Tryd.results21, hlt, hltI, hlt3, lk, st, wk]
    refine ⟨⟨k + 1, hlt⟩, ?_, by show 3 - (k + 1) < 3 - k; omega⟩
    refine weak_mk rfl (by first | exact Nat.le_refl _ | (simp only [mk_gen]; omega)) ?_ ?_ <;> simp +decide only [w_lookup_nil, w_lookup_cons, ch_ch, ch_lit, lit_ch, wkT, wkH, wkB, WVL, WV_refl', Int.natCast_zero, Int.natCast_add, Int.natCast_one, Nat.sub_self, Nat.sub_zero, List.replicate_zero, List.take_zero, List.nil_append, List.append_nil, fillC_zero, Nat.reduceDiv, Nat.reduceAdd, upd_bk, bk_at, getB_zero, getB_succ, modB_zero, modB_succ, rows_lit, repB_zero, repB_succ, List.length_cons, List.length_nil, upd_upd_same, upd_apply, mk_tmp, mk_heap, mk_gen, lookupA, lookupH, List.getD_cons_zero, List.getD_cons_succ, init_two, tops, Bool.true_and, and_self, and_true, true_and, true_or, if_true, if_false, ite_true, ite_false, reduceCtorEq, reduceIte]
  have ek : k = 3 := by omega
  subst ek
  have hltI : ¬ ((3 : Nat) : Int) < ((3 : Nat) : Int) := by omega
  have cf : mapC AVal.i (threeK s n m 3) = [.i s, .i n, .i m] := rfl
  have e7 : m + 2 - 1 = m + 1 := by omega
  have p1 : 1 ≤ m + 2 := by omega
  have lr : (rowsT hs cl n m ++ [[]]).length = m + 1 := by simp [rowsT_len]
  have e6 : List.take (m + 1) (List.drop 1 (linesT wRas s n m hs cl n m)) = rowsT hs cl n m ++ [[]] := by
    show List.take (m + 1) (rowsT hs cl n m ++ [[]]) = _
    exact List.take_of_length_le (by omega)
  have p2 : m + 1 < m + 2 := by omega
  simp (config := { maxSteps := 1000000 }) +decide only [NoH, Old, OldL, nilQ, nilA, asgn, nz, RechL, ReY, isNew, stepO, XPost, postN, XOk, updN, updU, isEff, avalue, aeff, ASt.eval, ASt.put, ASt.set, ASt.new, Nat.reduceDiv, Nat.reduceAdd, Int.reduceToNat, absV, absC, scalar, alen, acap, conc, flats, live, blkOf, aload, rd, part?, afieldAddr, afield, aindexAddr, cellsOf, afill, places, abuild, optI, asliceV, asliceS, szOk, srcCells, aappend, acopy, astore, amakeSlice, abuildSlice, snapL, mapO, treeL, AVal.tree, AVal.flatT, isFlat, ares, isFz, afroz, afrozB, lookupA, lookupH, tops, if_true, if_false, reduceCtorEq, forall_const, ite_true, ite_false, implies_true, walkS, tabS, Tryd.results21, eq_false hltI, cf, ll, e7, p1, p2, e6]
  refine ex_loopW (fun p : {p : Nat × Nat × Nat × Nat // p.1 ≤ m + 1} => mkG (ghs [] []) [(0, .t T), (2, .ptr 2 0 0), (9, .ptr 9 2 0), (53, .lst (mapC AVal.t (rowsT hs cl n m ++ [[]])) (m + 1)), (54, .i (m + 1 : Nat)), (55, .i p.1.1)] [(2, ⟨0, 5, [.i 0, .i 0, .i 0, .nl, .nl]⟩), (9, ⟨2, 5, [.i s, .i n, .i m, .own 78 p.1.2.1 0 (min p.1.1 m * n), .own 82 p.1.2.2.1 0 (min p.1.1 m * n)]⟩), (78, ⟨p.1.2.1, 1, mapC AVal.i (hs.take (min p.1.1 m * n))⟩), (82, ⟨p.1.2.2.1, 1, mapC AVal.i (cl.take (min p.1.1 m * n))⟩)] p.1.2.2.2 96) (fun p => m + 1 - p.1.1) ⟨(0, 3, 4, 5), Nat.zero_le _⟩ ?_ ?_
  · have e0 : min 0 m * n = 0 := by simp
    refine weak_mk rfl (by first | exact Nat.le_refl _ | (simp only [mk_gen]; omega)) ?_ ?_ <;> simp +decide only [w_lookup_nil, w_lookup_cons, ch_ch, ch_lit, lit_ch, wkT, wkH, wkB, WVL, WV_refl', Int.natCast_zero, Int.natCast_add, Int.natCast_one, Nat.sub_self, Nat.sub_zero, List.replicate_zero, List.take_zero, List.nil_append, List.append_nil, fillC_zero, Nat.reduceDiv, Nat.reduceAdd, upd_bk, bk_at, getB_zero, getB_succ, modB_zero, modB_succ, rows_lit, repB_zero, repB_succ, List.length_cons, List.length_nil, upd_upd_same, upd_apply, mk_tmp, mk_heap, mk_gen, lookupA, lookupH, List.getD_cons_zero, List.getD_cons_succ, init_two, tops, Bool.true_and, and_self, and_true, true_and, true_or, if_true, if_false, ite_true, ite_false, reduceCtorEq, reduceIte, e0, mapC_nil, List.take_zero]
    exact .inr ⟨WV_nl rfl rfl rfl rfl, WV_nl rfl rfl rfl rfl⟩
  rintro ⟨⟨k, g1, g2, G⟩, k1⟩
  have k1' : k ≤ m + 1 := k1
  by_cases hlt : k < m + 1
  case neg =>
    have ek : k = m + 1 := by omega
    subst ek
    have hltI2 : ¬ ((m + 1 : Nat) : Int) < ((m + 1 : Nat) : Int) := by omega
    have em : min (m + 1) m * n = n * m := by rw [Nat.min_eq_right (by omega), Nat.mul_comm]
    have t1 : hs.take (n * m) = hs := List.take_of_length_le (by omega)
    have t2 : cl.take (n * m) = cl := List.take_of_length_le (by omega)
    rw [em, t1, t2]
    simp (config := { maxSteps := 1000000 }) +decide only [NoH, Old, OldL, nilQ, nilA, asgn, nz, RechL, ReY, isNew, stepO, XPost, postN, XOk, updN, updU, isEff, avalue, aeff, ASt.eval, ASt.put, ASt.set, ASt.new, Nat.reduceDiv, Nat.reduceAdd, Int.reduceToNat, absV, absC, scalar, alen, acap, conc, flats, live, blkOf, aload, rd, part?, afieldAddr, afield, aindexAddr, cellsOf, afill, places, abuild, optI, asliceV, asliceS, szOk, srcCells, aappend, acopy, astore, amakeSlice, abuildSlice, snapL, mapO, treeL, AVal.tree, AVal.flatT, isFlat, ares, isFz, afroz, afrozB, lookupA, lookupH, tops, if_true, if_false, reduceCtorEq, forall_const, ite_true, ite_false, implies_true, walkS, tabS, Tryd.results21, eq_false hltI2, lr, loopW_exit]
    refine ⟨mkG (ghs [] []) [(0, .t T), (2, .ptr 2 0 0), (9, .ptr 9 2 0)] [(2, ⟨0, 5, [.i 0, .i 0, .i 0, .nl, .nl]⟩), (9, ⟨2, 5, [.i s, .i n, .i m, ints hs, ints cl]⟩)] G 96, .step ?_ (.refl _), ?_⟩
    · refine weak_mk rfl (by first | exact Nat.le_refl _ | (simp only [mk_gen]; omega)) ?_ ?_ <;> simp +decide only [w_lookup_nil, w_lookup_cons, ch_ch, ch_lit, lit_ch, wkT, wkH, wkB, WVL, WV_refl', Int.natCast_zero, Int.natCast_add, Int.natCast_one, Nat.sub_self, Nat.sub_zero, List.replicate_zero, List.take_zero, List.nil_append, List.append_nil, fillC_zero, Nat.reduceDiv, Nat.reduceAdd, upd_bk, bk_at, getB_zero, getB_succ, modB_zero, modB_succ, rows_lit, repB_zero, repB_succ, List.length_cons, List.length_nil, upd_upd_same, upd_apply, mk_tmp, mk_heap, mk_gen, lookupA, lookupH, List.getD_cons_zero, List.getD_cons_succ, init_two, tops, Bool.true_and, and_self, and_true, true_and, true_or, if_true, if_false, ite_true, ite_false, reduceCtorEq, reduceIte]
      have z1 : ints hs = .lst (mapC AVal.i hs) (n * m) := by show AVal.lst _ _ = _; rw [hl0]
      have z2 : ints cl = .lst (mapC AVal.i cl) (n * m) := by show AVal.lst _ _ = _; rw [hc0]
      rw [z1, z2]
      exact .inr ⟨WV_frz rfl rfl rfl (by simp [mapC, hl0]) (by rw [List.drop_zero]; exact (List.take_of_length_le (by simp [mapC, hl0])).symm) (treeL_i _), WV_frz rfl rfl rfl (by simp [mapC, hc0]) (by rw [List.drop_zero]; exact (List.take_of_length_le (by simp [mapC, hc0])).symm) (treeL_i _)⟩
    · simp (config := { maxSteps := 1000000 }) +decide only [NoH, Old, OldL, nilQ, nilA, asgn, nz, RechL, ReY, isNew, stepO, XPost, postN, XOk, updN, updU, isEff, avalue, aeff, ASt.eval, ASt.put, ASt.set, ASt.new, Nat.reduceDiv, Nat.reduceAdd, Int.reduceToNat, absV, absC, scalar, alen, acap, conc, flats, live, blkOf, aload, rd, part?, afieldAddr, afield, aindexAddr, cellsOf, afill, places, abuild, optI, asliceV, asliceS, szOk, srcCells, aappend, acopy, astore, amakeSlice, abuildSlice, snapL, mapO, treeL, AVal.tree, AVal.flatT, isFlat, ares, isFz, afroz, afrozB, lookupA, lookupH, tops, if_true, if_false, reduceCtorEq, forall_const, ite_true, ite_false, implies_true, walkS, tabS, Tryd.results21, sem_eqlT, eq_false gne]
      refine callK (dT) (by first | exact .inl rfl | exact .inr rfl) ?_
      simp (config := { maxSteps := 1000000 }) +decide only [NoH, Old, OldL, nilQ, nilA, asgn, nz, RechL, ReY, isNew, stepO, XPost, postN, XOk, updN, updU, isEff, avalue, aeff, ASt.eval, ASt.put, ASt.set, ASt.new, Nat.reduceDiv, Nat.reduceAdd, Int.reduceToNat, absV, absC, scalar, alen, acap, conc, flats, live, blkOf, aload, rd, part?, afieldAddr, afield, aindexAddr, cellsOf, afill, places, abuild, optI, asliceV, asliceS, szOk, srcCells, aappend, acopy, astore, amakeSlice, abuildSlice, snapL, mapO, treeL, AVal.tree, AVal.flatT, isFlat, ares, isFz, afroz, afrozB, lookupA, lookupH, tops, if_true, if_false, reduceCtorEq, forall_const, ite_true, ite_false, implies_true, walkS, tabS, Tryd.results21, sem_neqT, sem_eqlT, eq_false gne]
  have hltI : (k : Int) < ((m + 1 : Nat) : Int) := by omega
  have wk : IntKind.i64.wrap ((k : Int) + 1) = ((k + 1 : Nat) : Int) := wrap64 (by omega) (by omega)
  have kl : k < (rowsT hs cl n m ++ [[]]).length := by omega
  have km : min k m * n ≤ m * n := Nat.mul_le_mul_right n (Nat.min_le_right _ _)
  have nm : n * m ≤ 24 * 24 := Nat.mul_le_mul n24 m24
  rw [Nat.mul_comm m n] at km
  have th : (hs.take (min k m * n)).length = min k m * n := by rw [List.length_take]; omega
  have tc : (cl.take (min k m * n)).length = min k m * n := by rw [List.length_take]; omega
  have th2 : (hs.take (min k m * n)).take (min k m * n) = hs.take (min k m * n) := List.take_of_length_le (by omega)
  have tc2 : (cl.take (min k m * n)).take (min k m * n) = cl.take (min k m * n) := List.take_of_length_le (by omega)
  have sn : ∀ A B : List Int, mapC AVal.i A ++ mapC AVal.i B = mapC AVal.i (A ++ B) := fun A B => by simp [mapC]
  have h8 : (min k m * n + n) * 8 ≤ 140737488355328 := by omega
  by_cases hm : k < m
  · have ct : (mapC AVal.t (rowsT hs cl n m ++ [[]]))[k]? = some (.t (rowT hs cl n k)) := by
      have := rowsT_at (A := hs) (B := cl) (n := n) hm
      simp only [mapC, List.getElem?_map]
      rw [List.getElem?_append_left (by rw [rowsT_len]; exact hm), this]
      rfl
    have ⟨r1, r2⟩ := rowT_len hl0 hc0 hm ih ic n24
    have dC := den_Cut (rowT hs cl n k) [32] (by unfold rowT; simp; omega)
    rw [cut_row] at dC
    have d1 := den_ReadListN (rowL_len hl0 hm) n1 (by omega) (rowL_in ih)
    have d2 := den_ReadListN (rowL_len hc0 hm) n1 (by omega) (rowL_in ic)
    have mk0 : min k m = k := Nat.min_eq_left (by omega)
    have mk1 : min (k + 1) m = k + 1 := Nat.min_eq_left (by omega)
    have s1 := rowL_snoc (A := hs) (n := n) (y := k)
    have s2 := rowL_snoc (A := cl) (n := n) (y := k)
    have lr1 := rowL_len hl0 hm
    have lr2 := rowL_len hc0 hm
    have e2 : (k + 1) * n = k * n + n := Nat.succ_mul k n
    have jx : k ≤ m + 1 := by omega
    have e0 : min k m * n = k * n := by rw [mk0]
    rw [e0] at th tc th2 tc2 h8 ⊢
    simp (config := { maxSteps := 1000000 }) +decide only [NoH, Old, OldL, nilQ, nilA, asgn, nz, RechL, ReY, isNew, stepO, XPost, postN, XOk, updN, updU, isEff, avalue, aeff, ASt.eval, ASt.put, ASt.set, ASt.new, Nat.reduceDiv, Nat.reduceAdd, Int.reduceToNat, absV, absC, scalar, alen, acap, conc, flats, live, blkOf, aload, rd, part?, afieldAddr, afield, aindexAddr, cellsOf, afill, places, abuild, optI, asliceV, asliceS, szOk, srcCells, aappend, acopy, astore, amakeSlice, abuildSlice, snapL, mapO, treeL, AVal.tree, AVal.flatT, isFlat, ares, isFz, afroz, afrozB, lookupA, lookupH, tops, if_true, if_false, reduceCtorEq, forall_const, ite_true, ite_false, implies_true, walkS, tabS, Tryd.results21, eq_true hltI, wk, hlt, lr, ct]
    refine callK (dC) (by first | exact .inl rfl | exact .inr rfl) ?_
    simp (config := { maxSteps := 1000000 }) +decide only [NoH, Old, OldL, nilQ, nilA, asgn, nz, RechL, ReY, isNew, stepO, XPost, postN, XOk, updN, updU, isEff, avalue, aeff, ASt.eval, ASt.put, ASt.set, ASt.new, Nat.reduceDiv, Nat.reduceAdd, Int.reduceToNat, absV, absC, scalar, alen, acap, conc, flats, live, blkOf, aload, rd, part?, afieldAddr, afield, aindexAddr, cellsOf, afill, places, abuild, optI, asliceV, asliceS, szOk, srcCells, aappend, acopy, astore, amakeSlice, abuildSlice, snapL, mapO, treeL, AVal.tree, AVal.flatT, isFlat, ares, isFz, afroz, afrozB, lookupA, lookupH, tops, if_true, if_false, reduceCtorEq, forall_const, ite_true, ite_false, implies_true, walkS, tabS, Tryd.results21]
    refine callK (d1) (by first | exact .inl rfl | exact .inr rfl) ?_
    simp (config := { maxSteps := 1000000 }) +decide only [NoH, Old, OldL, nilQ, nilA, asgn, nz, RechL, ReY, isNew, stepO, XPost, postN, XOk, updN, updU, isEff, avalue, aeff, ASt.eval, ASt.put, ASt.set, ASt.new, Nat.reduceDiv, Nat.reduceAdd, Int.reduceToNat, absV, absC, scalar, alen, acap, conc, flats, live, blkOf, aload, rd, part?, afieldAddr, afield, aindexAddr, cellsOf, afill, places, abuild, optI, asliceV, asliceS, szOk, srcCells, aappend, acopy, astore, amakeSlice, abuildSlice, snapL, mapO, treeL, AVal.tree, AVal.flatT, isFlat, ares, isFz, afroz, afrozB, lookupA, lookupH, tops, if_true, if_false, reduceCtorEq, forall_const, ite_true, ite_false, implies_true, walkS, tabS, Tryd.results21]
    refine callK (d2) (by first | exact .inl rfl | exact .inr rfl) ?_
    simp (config := { maxSteps := 1000000 }) +decide only [NoH, Old, OldL, nilQ, nilA, asgn, nz, RechL, ReY, isNew, stepO, XPost, postN, XOk, updN, updU, isEff, avalue, aeff, ASt.eval, ASt.put, ASt.set, ASt.new, Nat.reduceDiv, Nat.reduceAdd, Int.reduceToNat, absV, absC, scalar, alen, acap, conc, flats, live, blkOf, aload, rd, part?, afieldAddr, afield, aindexAddr, cellsOf, afill, places, abuild, optI, asliceV, asliceS, szOk, srcCells, aappend, acopy, astore, amakeSlice, abuildSlice, snapL, mapO, treeL, AVal.tree, AVal.flatT, isFlat, ares, isFz, afroz, afrozB, lookupA, lookupH, tops, if_true, if_false, reduceCtorEq, forall_const, ite_true, ite_false, implies_true, walkS, tabS, Tryd.results21, wk, th, tc, th2, tc2, lr1, lr2, sn, s1, s2, h8]
    refine ⟨⟨(k + 1, G, G + 1, G + 2), by show k + 1 ≤ m + 1; omega⟩, ?_, by show m + 1 - (k + 1) < m + 1 - k; omega⟩
    refine weak_mk rfl (by first | exact Nat.le_refl _ | (simp only [mk_gen]; omega)) ?_ ?_ <;> simp +decide only [w_lookup_nil, w_lookup_cons, ch_ch, ch_lit, lit_ch, wkT, wkH, wkB, WVL, WV_refl', Int.natCast_zero, Int.natCast_add, Int.natCast_one, Nat.sub_self, Nat.sub_zero, List.replicate_zero, List.take_zero, List.nil_append, List.append_nil, fillC_zero, Nat.reduceDiv, Nat.reduceAdd, upd_bk, bk_at, getB_zero, getB_succ, modB_zero, modB_succ, rows_lit, repB_zero, repB_succ, List.length_cons, List.length_nil, upd_upd_same, upd_apply, mk_tmp, mk_heap, mk_gen, lookupA, lookupH, List.getD_cons_zero, List.getD_cons_succ, init_two, tops, Bool.true_and, and_self, and_true, true_and, true_or, if_true, if_false, ite_true, ite_false, reduceCtorEq, reduceIte, mk1, e2]
  · have ek : k = m := by omega
    have ct : (mapC AVal.t (rowsT hs cl n m ++ [[]]))[k]? = some (.t []) := by
      rw [ek]
      simp [mapC, rowsT_len]
    have dC := den_Cut [] [32] (by simp)
    rw [cut_nil] at dC
    have mk0 : min k m = m := by omega
    have mk1 : min (k + 1) m = m := by omega
    have e0 : min k m * n = m * n := by rw [mk0]
    rw [e0] at th tc th2 tc2 h8 ⊢
    have h82 : m * n * 8 ≤ 140737488355328 := by omega
    simp (config := { maxSteps := 1000000 }) +decide only [NoH, Old, OldL, nilQ, nilA, asgn, nz, RechL, ReY, isNew, stepO, XPost, postN, XOk, updN, updU, isEff, avalue, aeff, ASt.eval, ASt.put, ASt.set, ASt.new, Nat.reduceDiv, Nat.reduceAdd, Int.reduceToNat, absV, absC, scalar, alen, acap, conc, flats, live, blkOf, aload, rd, part?, afieldAddr, afield, aindexAddr, cellsOf, afill, places, abuild, optI, asliceV, asliceS, szOk, srcCells, aappend, acopy, astore, amakeSlice, abuildSlice, snapL, mapO, treeL, AVal.tree, AVal.flatT, isFlat, ares, isFz, afroz, afrozB, lookupA, lookupH, tops, if_true, if_false, reduceCtorEq, forall_const, ite_true, ite_false, implies_true, walkS, tabS, Tryd.results21, eq_true hltI, wk, hlt, lr, ct]
    refine callK (dC) (by first | exact .inl rfl | exact .inr rfl) ?_
    simp (config := { maxSteps := 1000000 }) +decide only [NoH, Old, OldL, nilQ, nilA, asgn, nz, RechL, ReY, isNew, stepO, XPost, postN, XOk, updN, updU, isEff, avalue, aeff, ASt.eval, ASt.put, ASt.set, ASt.new, Nat.reduceDiv, Nat.reduceAdd, Int.reduceToNat, absV, absC, scalar, alen, acap, conc, flats, live, blkOf, aload, rd, part?, afieldAddr, afield, aindexAddr, cellsOf, afill, places, abuild, optI, asliceV, asliceS, szOk, srcCells, aappend, acopy, astore, amakeSlice, abuildSlice, snapL, mapO, treeL, AVal.tree, AVal.flatT, isFlat, ares, isFz, afroz, afrozB, lookupA, lookupH, tops, if_true, if_false, reduceCtorEq, forall_const, ite_true, ite_false, implies_true, walkS, tabS, Tryd.results21]
    refine callK (den_ReadListNil) (by first | exact .inl rfl | exact .inr rfl) ?_
    simp (config := { maxSteps := 1000000 }) +decide only [NoH, Old, OldL, nilQ, nilA, asgn, nz, RechL, ReY, isNew, stepO, XPost, postN, XOk, updN, updU, isEff, avalue, aeff, ASt.eval, ASt.put, ASt.set, ASt.new, Nat.reduceDiv, Nat.reduceAdd, Int.reduceToNat, absV, absC, scalar, alen, acap, conc, flats, live, blkOf, aload, rd, part?, afieldAddr, afield, aindexAddr, cellsOf, afill, places, abuild, optI, asliceV, asliceS, szOk, srcCells, aappend, acopy, astore, amakeSlice, abuildSlice, snapL, mapO, treeL, AVal.tree, AVal.flatT, isFlat, ares, isFz, afroz, afrozB, lookupA, lookupH, tops, if_true, if_false, reduceCtorEq, forall_const, ite_true, ite_false, implies_true, walkS, tabS, Tryd.results21]
    refine callK (den_ReadListNil) (by first | exact .inl rfl | exact .inr rfl) ?_
    simp (config := { maxSteps := 1000000 }) +decide only [NoH, Old, OldL, nilQ, nilA, asgn, nz, RechL, ReY, isNew, stepO, XPost, postN, XOk, updN, updU, isEff, avalue, aeff, ASt.eval, ASt.put, ASt.set, ASt.new, Nat.reduceDiv, Nat.reduceAdd, Int.reduceToNat, absV, absC, scalar, alen, acap, conc, flats, live, blkOf, aload, rd, part?, afieldAddr, afield, aindexAddr, cellsOf, afill, places, abuild, optI, asliceV, asliceS, szOk, srcCells, aappend, acopy, astore, amakeSlice, abuildSlice, snapL, mapO, treeL, AVal.tree, AVal.flatT, isFlat, ares, isFz, afroz, afrozB, lookupA, lookupH, tops, if_true, if_false, reduceCtorEq, forall_const, ite_true, ite_false, implies_true, walkS, tabS, Tryd.results21, wk, th, tc, th2, tc2, sn, h82, Nat.add_zero, mapC_nil]
    refine ⟨⟨(k + 1, G, G + 1, G + 2), by show k + 1 ≤ m + 1; omega⟩, ?_, by show m + 1 - (k + 1) < m + 1 - k; omega⟩
    refine weak_mk rfl (by first | exact Nat.le_refl _ | (simp only [mk_gen]; omega)) ?_ ?_ <;> simp +decide only [w_lookup_nil, w_lookup_cons, ch_ch, ch_lit, lit_ch, wkT, wkH, wkB, WVL, WV_refl', Int.natCast_zero, Int.natCast_add, Int.natCast_one, Nat.sub_self, Nat.sub_zero, List.replicate_zero, List.take_zero, List.nil_append, List.append_nil, fillC_zero, Nat.reduceDiv, Nat.reduceAdd, upd_bk, bk_at, getB_zero, getB_succ, modB_zero, modB_succ, rows_lit, repB_zero, repB_succ, List.length_cons, List.length_nil, upd_upd_same, upd_apply, mk_tmp, mk_heap, mk_gen, lookupA, lookupH, List.getD_cons_zero, List.getD_cons_succ, init_two, tops, Bool.true_and, and_self, and_true, true_and, true_or, if_true, if_false, ite_true, ite_false, reduceCtorEq, reduceIte, mk1]
end Go.Proofs.YtiaemddmkmfijaaDoor
