/-
  OWN WORK: the reference's text of a raster.
-/
import Derived.Test.YtnklfhjpigameaaDoorSrB
import Derived.Test.YtnklfhjpigameaaDoorRaC
import Derived.Test.YtnklfhjpigameaaDoorSrG
namespace Go.Proofs.YtnklfhjpigameaaDoor
open Go Go.Own Go.Proofs
set_option maxHeartbeats 4000000
set_option maxRecDepth 20000
set_option linter.unusedSimpArgs false
set_option linter.unusedVariables false
theorem ras_in12 {s w h : Int} {a la : List Int} (h1 : OkRas s w h a la) : (∀ x ∈ a, In12 x) ∧ ∀ x ∈ la, In12 x := by
  have e := h1.2.2.1
  constructor
  · intro x hx
    obtain ⟨i, hi, rfl⟩ := List.getElem_of_mem hx
    have := (h1.2.2.2 i hi (by omega)).1
    exact ⟨by omega, by omega⟩
  · intro x hx
    obtain ⟨i, hi, rfl⟩ := List.getElem_of_mem hx
    have := (h1.2.2.2 i (by omega) hi).2.1
    exact ⟨by omega, by omega⟩
theorem den_ListTextN {xs : List Int} {n : Nat} (hx : xs.length = n) (hn : n ≤ 64) (h : ∀ x ∈ xs, In12 x) : Den Tryd.prog 15 [.lst (mapC AVal.i xs) n] (.t (numsT xs)) := by
  subst hx
  exact den_ListText xs hn h
def wRas : List UInt8 := [114, 97, 115, 116, 101, 114]
theorem addT (a b : List UInt8) (h : a.length + b.length ≤ 1000000) (x y : Operand) : semS Tryd.prog (do eqGuard .add 9 x y (.string (bt a)) (.string (bt b)); binOp .add 9 (.string (bt a)) (.string (bt b))) = some (.flat (.string (bt (a ++ b)))) := sem_addT Tryd.prog 9 x y a b (by omega)
theorem den_RasterTextNo (s w h : Int) (hs cl : List Int) (hT : ¬ OkRas s w h hs cl) : Den Tryd.prog 7 [rasV s w h hs cl] (.t []) := by
  refine den_of_awpG (ghs [] [1]) Tryd.func7 rfl (by kernel_rfl) (Nat.le_of_ble_eq_true rfl) (by simp only [treeL, AVal.tree, treeL_i, treeL_ints, treeL_u8, treeL_append, Bool.and_self, Bool.and_true, Bool.true_and]) (by first | rfl | simp only [treeL, AVal.tree, treeL_i, treeL_ints, treeL_u8, treeL_append, Bool.and_self, Bool.and_true, Bool.true_and]) mixed (by kernel_rfl) fun hl => ?_
  simp only [lensL, lens, lensL_i, lensL_mapC, maxI, and_true, true_and] at hl
  rw [Tryd.ntmps7]
  refine ex_start ?_
  simp (config := { maxSteps := 1000000 }) +decide only [NoH, Old, OldL, nilQ, nilA, asgn, nz, RechL, ReY, isNew, stepO, XPost, postN, XOk, updN, updU, isEff, avalue, aeff, ASt.eval, ASt.put, ASt.set, ASt.new, Nat.reduceDiv, Nat.reduceAdd, Int.reduceToNat, absV, absC, scalar, alen, acap, conc, flats, live, blkOf, aload, rd, part?, afieldAddr, afield, aindexAddr, cellsOf, afill, places, abuild, optI, asliceV, asliceS, szOk, srcCells, aappend, acopy, astore, amakeSlice, abuildSlice, snapL, mapO, treeL, AVal.tree, AVal.flatT, isFlat, ares, isFz, afroz, afrozB, lookupA, lookupH, tops, if_true, if_false, reduceCtorEq, forall_const, ite_true, ite_false, implies_true, walkS, tabS, Tryd.results7]
  refine callK (den_ValidRaster s w h hs cl) (by first | exact .inl rfl | exact .inr rfl) ?_
  simp (config := { maxSteps := 1000000 }) +decide only [NoH, Old, OldL, nilQ, nilA, asgn, nz, RechL, ReY, isNew, stepO, XPost, postN, XOk, updN, updU, isEff, avalue, aeff, ASt.eval, ASt.put, ASt.set, ASt.new, Nat.reduceDiv, Nat.reduceAdd, Int.reduceToNat, absV, absC, scalar, alen, acap, conc, flats, live, blkOf, aload, rd, part?, afieldAddr, afield, aindexAddr, cellsOf, afill, places, abuild, optI, asliceV, asliceS, szOk, srcCells, aappend, acopy, astore, amakeSlice, abuildSlice, snapL, mapO, treeL, AVal.tree, AVal.flatT, isFlat, ares, isFz, afroz, afrozB, lookupA, lookupH, tops, if_true, if_false, reduceCtorEq, forall_const, ite_true, ite_false, implies_true, walkS, tabS, Tryd.results7, eq_false hT]
theorem den_RasterText (s : Int) (n m : Nat) (hs cl : List Int) (hT : OkRas s n m hs cl) : Den Tryd.prog 7 [rasV s n m hs cl] (.t (gridK wRas s n m hs cl n m)) := by
  have hz := hT.1
  have hl0 : hs.length = n * m := by have := hT.2.1; have e : ((n * m : Nat) : Int) = (n : Int) * m := Int.natCast_mul n m; omega
  have hc0 : cl.length = n * m := by have := hT.2.2.1; omega
  have ih := (ras_in12 hT).1
  have ic := (ras_in12 hT).2
  have s12 : In12 s := ⟨by have := hz.1; omega, by have := hz.1; omega⟩
  have n12 : In12 n := ⟨by omega, by have := hz.2.1; omega⟩
  have m12 : In12 m := ⟨by omega, by have := hz.2.2.1; omega⟩
  have n24 : n ≤ 24 := by have := hz.2.1; omega
  have m24 : m ≤ 24 := by have := hz.2.2.1; omega
  have bs1 := hz.1
  have bn1 := hz.2.1
  have bm1 := hz.2.2.1
  have i1 := itoa_len12 s12
  have i2 := itoa_len12 n12
  have i3 := itoa_len12 m12
  have gz := gridK_zero wRas s n m hs cl n
  have gl := gridK_len (word := wRas) (by decide) s12 n12 m12 hl0 hc0 ih ic n24
  have a1 := addT [114, 97, 115, 116, 101, 114, 32] (Lib.itoa s) (by simp; omega)
  have a2 := addT (114 :: 97 :: 115 :: 116 :: 101 :: 114 :: 32 :: (Lib.itoa s)) ([32]) (by simp; omega)
  have a3 := addT (114 :: 97 :: 115 :: 116 :: 101 :: 114 :: 32 :: (Lib.itoa s ++ [32])) (Lib.itoa n) (by simp; omega)
  have a4 := addT (114 :: 97 :: 115 :: 116 :: 101 :: 114 :: 32 :: (Lib.itoa s ++ [32] ++ Lib.itoa n)) ([32]) (by simp; omega)
  have a5 := addT (114 :: 97 :: 115 :: 116 :: 101 :: 114 :: 32 :: (Lib.itoa s ++ [32] ++ Lib.itoa n ++ [32])) (Lib.itoa m) (by simp; omega)
  have a6 := addT (114 :: 97 :: 115 :: 116 :: 101 :: 114 :: 32 :: (Lib.itoa s ++ [32] ++ Lib.itoa n ++ [32] ++ Lib.itoa m)) ([10]) (by simp; omega)
  have ez : (114 :: 97 :: 115 :: 116 :: 101 :: 114 :: 32 :: (Lib.itoa s ++ [32] ++ Lib.itoa n ++ [32] ++ Lib.itoa m ++ [10])) = gridK wRas s n m hs cl n 0 := by rw [gz]; rfl
  refine den_of_awpG (ghs [] [1]) Tryd.func7 rfl (by kernel_rfl) (Nat.le_of_ble_eq_true rfl) (by simp only [treeL, AVal.tree, treeL_i, treeL_ints, treeL_u8, treeL_append, Bool.and_self, Bool.and_true, Bool.true_and]) (by first | rfl | simp only [treeL, AVal.tree, treeL_i, treeL_ints, treeL_u8, treeL_append, Bool.and_self, Bool.and_true, Bool.true_and]) mixed (by kernel_rfl) fun hl => ?_
  simp only [lensL, lens, lensL_i, lensL_mapC, maxI, and_true, true_and] at hl
  rw [Tryd.ntmps7]
  refine ex_start ?_
  simp (config := { maxSteps := 1000000 }) +decide only [NoH, Old, OldL, nilQ, nilA, asgn, nz, RechL, ReY, isNew, stepO, XPost, postN, XOk, updN, updU, isEff, avalue, aeff, ASt.eval, ASt.put, ASt.set, ASt.new, Nat.reduceDiv, Nat.reduceAdd, Int.reduceToNat, absV, absC, scalar, alen, acap, conc, flats, live, blkOf, aload, rd, part?, afieldAddr, afield, aindexAddr, cellsOf, afill, places, abuild, optI, asliceV, asliceS, szOk, srcCells, aappend, acopy, astore, amakeSlice, abuildSlice, snapL, mapO, treeL, AVal.tree, AVal.flatT, isFlat, ares, isFz, afroz, afrozB, lookupA, lookupH, tops, if_true, if_false, reduceCtorEq, forall_const, ite_true, ite_false, implies_true, walkS, tabS, Tryd.results7]
  refine callK (den_ValidRaster s n m hs cl) (by first | exact .inl rfl | exact .inr rfl) ?_
  simp (config := { maxSteps := 1000000 }) +decide only [NoH, Old, OldL, nilQ, nilA, asgn, nz, RechL, ReY, isNew, stepO, XPost, postN, XOk, updN, updU, isEff, avalue, aeff, ASt.eval, ASt.put, ASt.set, ASt.new, Nat.reduceDiv, Nat.reduceAdd, Int.reduceToNat, absV, absC, scalar, alen, acap, conc, flats, live, blkOf, aload, rd, part?, afieldAddr, afield, aindexAddr, cellsOf, afill, places, abuild, optI, asliceV, asliceS, szOk, srcCells, aappend, acopy, astore, amakeSlice, abuildSlice, snapL, mapO, treeL, AVal.tree, AVal.flatT, isFlat, ares, isFz, afroz, afrozB, lookupA, lookupH, tops, if_true, if_false, reduceCtorEq, forall_const, ite_true, ite_false, implies_true, walkS, tabS, Tryd.results7, eq_true hT]
  refine callK (den_Decimal s (by omega) (by omega)) (by first | exact .inl rfl | exact .inr rfl) ?_
  simp (config := { maxSteps := 1000000 }) +decide only [NoH, Old, OldL, nilQ, nilA, asgn, nz, RechL, ReY, isNew, stepO, XPost, postN, XOk, updN, updU, isEff, avalue, aeff, ASt.eval, ASt.put, ASt.set, ASt.new, Nat.reduceDiv, Nat.reduceAdd, Int.reduceToNat, absV, absC, scalar, alen, acap, conc, flats, live, blkOf, aload, rd, part?, afieldAddr, afield, aindexAddr, cellsOf, afill, places, abuild, optI, asliceV, asliceS, szOk, srcCells, aappend, acopy, astore, amakeSlice, abuildSlice, snapL, mapO, treeL, AVal.tree, AVal.flatT, isFlat, ares, isFz, afroz, afrozB, lookupA, lookupH, tops, if_true, if_false, reduceCtorEq, forall_const, ite_true, ite_false, implies_true, walkS, tabS, Tryd.results7, a1, a2]
  refine callK (den_Decimal n (by omega) (by omega)) (by first | exact .inl rfl | exact .inr rfl) ?_
  simp (config := { maxSteps := 1000000 }) +decide only [NoH, Old, OldL, nilQ, nilA, asgn, nz, RechL, ReY, isNew, stepO, XPost, postN, XOk, updN, updU, isEff, avalue, aeff, ASt.eval, ASt.put, ASt.set, ASt.new, Nat.reduceDiv, Nat.reduceAdd, Int.reduceToNat, absV, absC, scalar, alen, acap, conc, flats, live, blkOf, aload, rd, part?, afieldAddr, afield, aindexAddr, cellsOf, afill, places, abuild, optI, asliceV, asliceS, szOk, srcCells, aappend, acopy, astore, amakeSlice, abuildSlice, snapL, mapO, treeL, AVal.tree, AVal.flatT, isFlat, ares, isFz, afroz, afrozB, lookupA, lookupH, tops, if_true, if_false, reduceCtorEq, forall_const, ite_true, ite_false, implies_true, walkS, tabS, Tryd.results7, a1, a2, a3, a4]
  refine callK (den_Decimal m (by omega) (by omega)) (by first | exact .inl rfl | exact .inr rfl) ?_
  simp (config := { maxSteps := 1000000 }) +decide only [NoH, Old, OldL, nilQ, nilA, asgn, nz, RechL, ReY, isNew, stepO, XPost, postN, XOk, updN, updU, isEff, avalue, aeff, ASt.eval, ASt.put, ASt.set, ASt.new, Nat.reduceDiv, Nat.reduceAdd, Int.reduceToNat, absV, absC, scalar, alen, acap, conc, flats, live, blkOf, aload, rd, part?, afieldAddr, afield, aindexAddr, cellsOf, afill, places, abuild, optI, asliceV, asliceS, szOk, srcCells, aappend, acopy, astore, amakeSlice, abuildSlice, snapL, mapO, treeL, AVal.tree, AVal.flatT, isFlat, ares, isFz, afroz, afrozB, lookupA, lookupH, tops, if_true, if_false, reduceCtorEq, forall_const, ite_true, ite_false, implies_true, walkS, tabS, Tryd.results7, a1, a2, a3, a4, a5, a6, ez]
  refine ex_loop (fun k : {k : Nat // k ≤ m} => mkG (ghs [] [1]) [(1, rasP s n m hs cl), (3, .t (gridK wRas s n m hs cl n k.1)), (25, .i m), (26, .i k.1)] [] 0 58) (fun k => m - k.1) ⟨0, Nat.zero_le _⟩ ?_ ?_
  · refine weak_mk rfl (by first | exact Nat.le_refl _ | (simp only [mk_gen]; omega)) ?_ ?_ <;> simp +decide only [w_lookup_nil, w_lookup_cons, ch_ch, ch_lit, lit_ch, wkT, wkH, wkB, WVL, WV_refl', Int.natCast_zero, Int.natCast_add, Int.natCast_one, Nat.sub_self, Nat.sub_zero, List.replicate_zero, List.take_zero, List.nil_append, List.append_nil, fillC_zero, Nat.reduceDiv, Nat.reduceAdd, upd_bk, bk_at, getB_zero, getB_succ, modB_zero, modB_succ, rows_lit, repB_zero, repB_succ, List.length_cons, List.length_nil, upd_upd_same, upd_apply, mk_tmp, mk_heap, mk_gen, lookupA, lookupH, List.getD_cons_zero, List.getD_cons_succ, init_two, tops, Bool.true_and, and_self, and_true, true_and, true_or, if_true, if_false, ite_true, ite_false, reduceCtorEq, reduceIte]
  rintro ⟨k, k1⟩
  have k1' : k ≤ m := k1
  by_cases hlt : k < m
  case neg =>
    have e : k = m := by omega
    subst e
    have hltI : ¬ (k : Int) < (k : Int) := by omega
    simp (config := { maxSteps := 1000000 }) +decide only [NoH, Old, OldL, nilQ, nilA, asgn, nz, RechL, ReY, isNew, stepO, XPost, postN, XOk, updN, updU, isEff, avalue, aeff, ASt.eval, ASt.put, ASt.set, ASt.new, Nat.reduceDiv, Nat.reduceAdd, Int.reduceToNat, absV, absC, scalar, alen, acap, conc, flats, live, blkOf, aload, rd, part?, afieldAddr, afield, aindexAddr, cellsOf, afill, places, abuild, optI, asliceV, asliceS, szOk, srcCells, aappend, acopy, astore, amakeSlice, abuildSlice, snapL, mapO, treeL, AVal.tree, AVal.flatT, isFlat, ares, isFz, afroz, afrozB, lookupA, lookupH, tops, if_true, if_false, reduceCtorEq, forall_const, ite_true, ite_false, implies_true, walkS, tabS, Tryd.results7, eq_false hltI]
  have hltI : (k : Int) < (m : Int) := by omega
  have wk : IntKind.i64.wrap ((k : Int) + 1) = ((k + 1 : Nat) : Int) := wrap64 (by omega) (by omega)
  have km : (k + 1) * n ≤ m * n := Nat.mul_le_mul_right n hlt
  rw [Nat.succ_mul, Nat.mul_comm m n] at km
  have nm : n * m ≤ 24 * 24 := Nat.mul_le_mul n24 m24
  have ek : (k : Int) * (n : Int) = ((k * n : Nat) : Int) := (Int.natCast_mul k n).symm
  have q1 : IntKind.i64.wrap ((k : Int) * (n : Int)) = ((k * n : Nat) : Int) := (wrap64 (by omega) (by omega)).trans ek
  have q2 : IntKind.i64.wrap (((k * n : Nat) : Int) + (n : Int)) = ((k * n + n : Nat) : Int) := wrap64 (by omega) (by omega)
  have jn : k * n + n - k * n = n := by omega
  have jle : k * n ≤ k * n + n := by omega
  have jh : k * n + n ≤ hs.length := by omega
  have jc : k * n + n ≤ cl.length := by omega
  have er : List.take n (List.drop (k * n) hs) = rowL hs n k := rfl
  have er' : List.take n (List.drop (k * n) cl) = rowL cl n k := rfl
  have d1 := den_ListTextN (rowL_len hl0 hlt) (by omega) (rowL_in ih)
  have d2 := den_ListTextN (rowL_len hc0 hlt) (by omega) (rowL_in ic)
  have ⟨r1, r2⟩ := rowT_len hl0 hc0 hlt ih ic n24
  have g0 := gl k (by omega)
  have gs := gridK_snoc wRas s n m hs cl n k
  obtain ⟨Z, hZ⟩ : ∃ Z, gridK wRas s n m hs cl n (k + 1) = Z := ⟨_, rfl⟩
  rw [hZ] at gs
  generalize gridK wRas s n m hs cl n k = X at *
  generalize numsT (rowL hs n k) = A at *
  generalize numsT (rowL cl n k) = B at *
  have b1 := addT A [32] (by simp; omega)
  have b2 := addT (A ++ [32]) B (by simp; omega)
  have b3 := addT (A ++ [32] ++ B) [10] (by simp; omega)
  have b4 := addT X (A ++ [32] ++ B ++ [10]) (by simp; omega)
  simp (config := { maxSteps := 1000000 }) +decide only [NoH, Old, OldL, nilQ, nilA, asgn, nz, RechL, ReY, isNew, stepO, XPost, postN, XOk, updN, updU, isEff, avalue, aeff, ASt.eval, ASt.put, ASt.set, ASt.new, Nat.reduceDiv, Nat.reduceAdd, Int.reduceToNat, absV, absC, scalar, alen, acap, conc, flats, live, blkOf, aload, rd, part?, afieldAddr, afield, aindexAddr, cellsOf, afill, places, abuild, optI, asliceV, asliceS, szOk, srcCells, aappend, acopy, astore, amakeSlice, abuildSlice, snapL, mapO, treeL, AVal.tree, AVal.flatT, isFlat, ares, isFz, afroz, afrozB, lookupA, lookupH, tops, if_true, if_false, reduceCtorEq, forall_const, ite_true, ite_false, implies_true, walkS, tabS, Tryd.results7, eq_true hltI, q1, q2, jn, jle, jh, jc, er]
  refine callK (d1) (by first | exact .inl rfl | exact .inr rfl) ?_
  simp (config := { maxSteps := 1000000 }) +decide only [NoH, Old, OldL, nilQ, nilA, asgn, nz, RechL, ReY, isNew, stepO, XPost, postN, XOk, updN, updU, isEff, avalue, aeff, ASt.eval, ASt.put, ASt.set, ASt.new, Nat.reduceDiv, Nat.reduceAdd, Int.reduceToNat, absV, absC, scalar, alen, acap, conc, flats, live, blkOf, aload, rd, part?, afieldAddr, afield, aindexAddr, cellsOf, afill, places, abuild, optI, asliceV, asliceS, szOk, srcCells, aappend, acopy, astore, amakeSlice, abuildSlice, snapL, mapO, treeL, AVal.tree, AVal.flatT, isFlat, ares, isFz, afroz, afrozB, lookupA, lookupH, tops, if_true, if_false, reduceCtorEq, forall_const, ite_true, ite_false, implies_true, walkS, tabS, Tryd.results7, b1, q1, q2, jn, jle, jh, jc, er']
  refine callK (d2) (by first | exact .inl rfl | exact .inr rfl) ?_
  simp (config := { maxSteps := 1000000 }) +decide only [NoH, Old, OldL, nilQ, nilA, asgn, nz, RechL, ReY, isNew, stepO, XPost, postN, XOk, updN, updU, isEff, avalue, aeff, ASt.eval, ASt.put, ASt.set, ASt.new, Nat.reduceDiv, Nat.reduceAdd, Int.reduceToNat, absV, absC, scalar, alen, acap, conc, flats, live, blkOf, aload, rd, part?, afieldAddr, afield, aindexAddr, cellsOf, afill, places, abuild, optI, asliceV, asliceS, szOk, srcCells, aappend, acopy, astore, amakeSlice, abuildSlice, snapL, mapO, treeL, AVal.tree, AVal.flatT, isFlat, ares, isFz, afroz, afrozB, lookupA, lookupH, tops, if_true, if_false, reduceCtorEq, forall_const, ite_true, ite_false, implies_true, walkS, tabS, Tryd.results7, b1, b2, b3, b4, gs, wk]
  refine ⟨⟨k + 1, hlt⟩, ?_, by show m - (k + 1) < m - k; omega⟩
  refine weak_mk rfl (by first | exact Nat.le_refl _ | (simp only [mk_gen]; omega)) ?_ ?_ <;> simp +decide only [w_lookup_nil, w_lookup_cons, ch_ch, ch_lit, lit_ch, wkT, wkH, wkB, WVL, WV_refl', Int.natCast_zero, Int.natCast_add, Int.natCast_one, Nat.sub_self, Nat.sub_zero, List.replicate_zero, List.take_zero, List.nil_append, List.append_nil, fillC_zero, Nat.reduceDiv, Nat.reduceAdd, upd_bk, bk_at, getB_zero, getB_succ, modB_zero, modB_succ, rows_lit, repB_zero, repB_succ, List.length_cons, List.length_nil, upd_upd_same, upd_apply, mk_tmp, mk_heap, mk_gen, lookupA, lookupH, List.getD_cons_zero, List.getD_cons_succ, init_two, tops, Bool.true_and, and_self, and_true, true_and, true_or, if_true, if_false, ite_true, ite_false, reduceCtorEq, reduceIte, hZ]
theorem den_l01ListN {xs : List Int} {n : Nat} (hx : xs.length = n) (hn : n ≤ 64) (h : ∀ x ∈ xs, In12 x) : Den Tryd.prog 21 [.lst (mapC AVal.i xs) n] (.t (numsT xs)) := by
  subst hx
  exact den_l01List xs hn h
theorem den_l20Text (s : Int) (n m : Nat) (hs cl : List Int) (hT : OkRas s n m hs cl) : Den Tryd.prog 11 [rasP s n m hs cl] (.t (gridK wRas s n m hs cl n m)) := by
  have hz := hT.1
  have hl0 : hs.length = n * m := by have := hT.2.1; have e : ((n * m : Nat) : Int) = (n : Int) * m := Int.natCast_mul n m; omega
  have hc0 : cl.length = n * m := by have := hT.2.2.1; omega
  have ih := (ras_in12 hT).1
  have ic := (ras_in12 hT).2
  have s12 : In12 s := ⟨by have := hz.1; omega, by have := hz.1; omega⟩
  have n12 : In12 n := ⟨by omega, by have := hz.2.1; omega⟩
  have m12 : In12 m := ⟨by omega, by have := hz.2.2.1; omega⟩
  have n24 : n ≤ 24 := by have := hz.2.1; omega
  have m24 : m ≤ 24 := by have := hz.2.2.1; omega
  have bs1 := hz.1
  have bn1 := hz.2.1
  have bm1 := hz.2.2.1
  have i1 := itoa_len12 s12
  have i2 := itoa_len12 n12
  have i3 := itoa_len12 m12
  have gz := gridK_zero wRas s n m hs cl n
  have gl := gridK_len (word := wRas) (by decide) s12 n12 m12 hl0 hc0 ih ic n24
  have a1 := addT [114, 97, 115, 116, 101, 114, 32] (Lib.itoa s) (by simp; omega)
  have a2 := addT (114 :: 97 :: 115 :: 116 :: 101 :: 114 :: 32 :: (Lib.itoa s)) ([32]) (by simp; omega)
  have a3 := addT (114 :: 97 :: 115 :: 116 :: 101 :: 114 :: 32 :: (Lib.itoa s ++ [32])) (Lib.itoa n) (by simp; omega)
  have a4 := addT (114 :: 97 :: 115 :: 116 :: 101 :: 114 :: 32 :: (Lib.itoa s ++ [32] ++ Lib.itoa n)) ([32]) (by simp; omega)
  have a5 := addT (114 :: 97 :: 115 :: 116 :: 101 :: 114 :: 32 :: (Lib.itoa s ++ [32] ++ Lib.itoa n ++ [32])) (Lib.itoa m) (by simp; omega)
  have a6 := addT (114 :: 97 :: 115 :: 116 :: 101 :: 114 :: 32 :: (Lib.itoa s ++ [32] ++ Lib.itoa n ++ [32] ++ Lib.itoa m)) ([10]) (by simp; omega)
  have ez : (114 :: 97 :: 115 :: 116 :: 101 :: 114 :: 32 :: (Lib.itoa s ++ [32] ++ Lib.itoa n ++ [32] ++ Lib.itoa m ++ [10])) = gridK wRas s n m hs cl n 0 := by rw [gz]; rfl
  refine den_of_awp Tryd.func11 rfl (by kernel_rfl) (Nat.le_of_ble_eq_true rfl) (by simp only [treeL, AVal.tree, treeL_i, treeL_ints, treeL_u8, treeL_append, Bool.and_self, Bool.and_true, Bool.true_and]) (by first | rfl | simp only [treeL, AVal.tree, treeL_i, treeL_ints, treeL_u8, treeL_append, Bool.and_self, Bool.and_true, Bool.true_and]) mixed (by kernel_rfl) fun hl => ?_
  simp only [lensL, lens, lensL_i, lensL_mapC, maxI, and_true, true_and] at hl
  rw [Tryd.ntmps11]
  refine ex_start ?_
  simp (config := { maxSteps := 1000000 }) +decide only [NoH, Old, OldL, nilQ, nilA, asgn, nz, RechL, ReY, isNew, stepO, XPost, postN, XOk, updN, updU, isEff, avalue, aeff, ASt.eval, ASt.put, ASt.set, ASt.new, Nat.reduceDiv, Nat.reduceAdd, Int.reduceToNat, absV, absC, scalar, alen, acap, conc, flats, live, blkOf, aload, rd, part?, afieldAddr, afield, aindexAddr, cellsOf, afill, places, abuild, optI, asliceV, asliceS, szOk, srcCells, aappend, acopy, astore, amakeSlice, abuildSlice, snapL, mapO, treeL, AVal.tree, AVal.flatT, isFlat, ares, isFz, afroz, afrozB, lookupA, lookupH, tops, if_true, if_false, reduceCtorEq, forall_const, ite_true, ite_false, implies_true, walkS, tabS, Tryd.results11]
  refine callK (den_l01Dec s (by omega) (by omega)) (by first | exact .inl rfl | exact .inr rfl) ?_
  simp (config := { maxSteps := 1000000 }) +decide only [NoH, Old, OldL, nilQ, nilA, asgn, nz, RechL, ReY, isNew, stepO, XPost, postN, XOk, updN, updU, isEff, avalue, aeff, ASt.eval, ASt.put, ASt.set, ASt.new, Nat.reduceDiv, Nat.reduceAdd, Int.reduceToNat, absV, absC, scalar, alen, acap, conc, flats, live, blkOf, aload, rd, part?, afieldAddr, afield, aindexAddr, cellsOf, afill, places, abuild, optI, asliceV, asliceS, szOk, srcCells, aappend, acopy, astore, amakeSlice, abuildSlice, snapL, mapO, treeL, AVal.tree, AVal.flatT, isFlat, ares, isFz, afroz, afrozB, lookupA, lookupH, tops, if_true, if_false, reduceCtorEq, forall_const, ite_true, ite_false, implies_true, walkS, tabS, Tryd.results11, a1, a2]
  refine callK (den_l01Dec n (by omega) (by omega)) (by first | exact .inl rfl | exact .inr rfl) ?_
  simp (config := { maxSteps := 1000000 }) +decide only [NoH, Old, OldL, nilQ, nilA, asgn, nz, RechL, ReY, isNew, stepO, XPost, postN, XOk, updN, updU, isEff, avalue, aeff, ASt.eval, ASt.put, ASt.set, ASt.new, Nat.reduceDiv, Nat.reduceAdd, Int.reduceToNat, absV, absC, scalar, alen, acap, conc, flats, live, blkOf, aload, rd, part?, afieldAddr, afield, aindexAddr, cellsOf, afill, places, abuild, optI, asliceV, asliceS, szOk, srcCells, aappend, acopy, astore, amakeSlice, abuildSlice, snapL, mapO, treeL, AVal.tree, AVal.flatT, isFlat, ares, isFz, afroz, afrozB, lookupA, lookupH, tops, if_true, if_false, reduceCtorEq, forall_const, ite_true, ite_false, implies_true, walkS, tabS, Tryd.results11, a1, a2, a3, a4]
  refine callK (den_l01Dec m (by omega) (by omega)) (by first | exact .inl rfl | exact .inr rfl) ?_
  simp (config := { maxSteps := 1000000 }) +decide only [NoH, Old, OldL, nilQ, nilA, asgn, nz, RechL, ReY, isNew, stepO, XPost, postN, XOk, updN, updU, isEff, avalue, aeff, ASt.eval, ASt.put, ASt.set, ASt.new, Nat.reduceDiv, Nat.reduceAdd, Int.reduceToNat, absV, absC, scalar, alen, acap, conc, flats, live, blkOf, aload, rd, part?, afieldAddr, afield, aindexAddr, cellsOf, afill, places, abuild, optI, asliceV, asliceS, szOk, srcCells, aappend, acopy, astore, amakeSlice, abuildSlice, snapL, mapO, treeL, AVal.tree, AVal.flatT, isFlat, ares, isFz, afroz, afrozB, lookupA, lookupH, tops, if_true, if_false, reduceCtorEq, forall_const, ite_true, ite_false, implies_true, walkS, tabS, Tryd.results11, a1, a2, a3, a4, a5, a6, ez]
  refine ex_loop (fun k : {k : Nat // k ≤ m} => mk [(0, rasP s n m hs cl), (3, .t (gridK wRas s n m hs cl n k.1)), (4, .i k.1)] [] 0 73) (fun k => m - k.1) ⟨0, Nat.zero_le _⟩ ?_ ?_
  · refine weak_mk rfl (by first | exact Nat.le_refl _ | (simp only [mk_gen]; omega)) ?_ ?_ <;> simp +decide only [w_lookup_nil, w_lookup_cons, ch_ch, ch_lit, lit_ch, wkT, wkH, wkB, WVL, WV_refl', Int.natCast_zero, Int.natCast_add, Int.natCast_one, Nat.sub_self, Nat.sub_zero, List.replicate_zero, List.take_zero, List.nil_append, List.append_nil, fillC_zero, Nat.reduceDiv, Nat.reduceAdd, upd_bk, bk_at, getB_zero, getB_succ, modB_zero, modB_succ, rows_lit, repB_zero, repB_succ, List.length_cons, List.length_nil, upd_upd_same, upd_apply, mk_tmp, mk_heap, mk_gen, lookupA, lookupH, List.getD_cons_zero, List.getD_cons_succ, init_two, tops, Bool.true_and, and_self, and_true, true_and, true_or, if_true, if_false, ite_true, ite_false, reduceCtorEq, reduceIte]
  rintro ⟨k, k1⟩
  have k1' : k ≤ m := k1
  by_cases hlt : k < m
  case neg =>
    have e : k = m := by omega
    subst e
    have hltI : ¬ (k : Int) < (k : Int) := by omega
    simp (config := { maxSteps := 1000000 }) +decide only [NoH, Old, OldL, nilQ, nilA, asgn, nz, RechL, ReY, isNew, stepO, XPost, postN, XOk, updN, updU, isEff, avalue, aeff, ASt.eval, ASt.put, ASt.set, ASt.new, Nat.reduceDiv, Nat.reduceAdd, Int.reduceToNat, absV, absC, scalar, alen, acap, conc, flats, live, blkOf, aload, rd, part?, afieldAddr, afield, aindexAddr, cellsOf, afill, places, abuild, optI, asliceV, asliceS, szOk, srcCells, aappend, acopy, astore, amakeSlice, abuildSlice, snapL, mapO, treeL, AVal.tree, AVal.flatT, isFlat, ares, isFz, afroz, afrozB, lookupA, lookupH, tops, if_true, if_false, reduceCtorEq, forall_const, ite_true, ite_false, implies_true, walkS, tabS, Tryd.results11, eq_false hltI]
  have hltI : (k : Int) < (m : Int) := by omega
  have wk : IntKind.i64.wrap ((k : Int) + 1) = ((k + 1 : Nat) : Int) := wrap64 (by omega) (by omega)
  have km : (k + 1) * n ≤ m * n := Nat.mul_le_mul_right n hlt
  rw [Nat.succ_mul, Nat.mul_comm m n] at km
  have nm : n * m ≤ 24 * 24 := Nat.mul_le_mul n24 m24
  have ek : (k : Int) * (n : Int) = ((k * n : Nat) : Int) := (Int.natCast_mul k n).symm
  have q1 : IntKind.i64.wrap ((k : Int) * (n : Int)) = ((k * n : Nat) : Int) := (wrap64 (by omega) (by omega)).trans ek
  have q2 : IntKind.i64.wrap (((k * n : Nat) : Int) + (n : Int)) = ((k * n + n : Nat) : Int) := wrap64 (by omega) (by omega)
  have jn : k * n + n - k * n = n := by omega
  have jle : k * n ≤ k * n + n := by omega
  have jh : k * n + n ≤ hs.length := by omega
  have jc : k * n + n ≤ cl.length := by omega
  have er : List.take n (List.drop (k * n) hs) = rowL hs n k := rfl
  have er' : List.take n (List.drop (k * n) cl) = rowL cl n k := rfl
  have d1 := den_l01ListN (rowL_len hl0 hlt) (by omega) (rowL_in ih)
  have d2 := den_l01ListN (rowL_len hc0 hlt) (by omega) (rowL_in ic)
  have ⟨r1, r2⟩ := rowT_len hl0 hc0 hlt ih ic n24
  have g0 := gl k (by omega)
  have gs := gridK_snoc wRas s n m hs cl n k
  obtain ⟨Z, hZ⟩ : ∃ Z, gridK wRas s n m hs cl n (k + 1) = Z := ⟨_, rfl⟩
  rw [hZ] at gs
  generalize gridK wRas s n m hs cl n k = X at *
  generalize numsT (rowL hs n k) = A at *
  generalize numsT (rowL cl n k) = B at *
  have b1 := addT A [32] (by simp; omega)
  have b2 := addT (A ++ [32]) B (by simp; omega)
  have b3 := addT (A ++ [32] ++ B) [10] (by simp; omega)
  have b4 := addT X (A ++ [32] ++ B ++ [10]) (by simp; omega)
  simp (config := { maxSteps := 1000000 }) +decide only [NoH, Old, OldL, nilQ, nilA, asgn, nz, RechL, ReY, isNew, stepO, XPost, postN, XOk, updN, updU, isEff, avalue, aeff, ASt.eval, ASt.put, ASt.set, ASt.new, Nat.reduceDiv, Nat.reduceAdd, Int.reduceToNat, absV, absC, scalar, alen, acap, conc, flats, live, blkOf, aload, rd, part?, afieldAddr, afield, aindexAddr, cellsOf, afill, places, abuild, optI, asliceV, asliceS, szOk, srcCells, aappend, acopy, astore, amakeSlice, abuildSlice, snapL, mapO, treeL, AVal.tree, AVal.flatT, isFlat, ares, isFz, afroz, afrozB, lookupA, lookupH, tops, if_true, if_false, reduceCtorEq, forall_const, ite_true, ite_false, implies_true, walkS, tabS, Tryd.results11, eq_true hltI, q1, q2, jn, jle, jh, jc, er]
  refine callK (d1) (by first | exact .inl rfl | exact .inr rfl) ?_
  simp (config := { maxSteps := 1000000 }) +decide only [NoH, Old, OldL, nilQ, nilA, asgn, nz, RechL, ReY, isNew, stepO, XPost, postN, XOk, updN, updU, isEff, avalue, aeff, ASt.eval, ASt.put, ASt.set, ASt.new, Nat.reduceDiv, Nat.reduceAdd, Int.reduceToNat, absV, absC, scalar, alen, acap, conc, flats, live, blkOf, aload, rd, part?, afieldAddr, afield, aindexAddr, cellsOf, afill, places, abuild, optI, asliceV, asliceS, szOk, srcCells, aappend, acopy, astore, amakeSlice, abuildSlice, snapL, mapO, treeL, AVal.tree, AVal.flatT, isFlat, ares, isFz, afroz, afrozB, lookupA, lookupH, tops, if_true, if_false, reduceCtorEq, forall_const, ite_true, ite_false, implies_true, walkS, tabS, Tryd.results11, b1, q1, q2, jn, jle, jh, jc, er']
  refine callK (d2) (by first | exact .inl rfl | exact .inr rfl) ?_
  simp (config := { maxSteps := 1000000 }) +decide only [NoH, Old, OldL, nilQ, nilA, asgn, nz, RechL, ReY, isNew, stepO, XPost, postN, XOk, updN, updU, isEff, avalue, aeff, ASt.eval, ASt.put, ASt.set, ASt.new, Nat.reduceDiv, Nat.reduceAdd, Int.reduceToNat, absV, absC, scalar, alen, acap, conc, flats, live, blkOf, aload, rd, part?, afieldAddr, afield, aindexAddr, cellsOf, afill, places, abuild, optI, asliceV, asliceS, szOk, srcCells, aappend, acopy, astore, amakeSlice, abuildSlice, snapL, mapO, treeL, AVal.tree, AVal.flatT, isFlat, ares, isFz, afroz, afrozB, lookupA, lookupH, tops, if_true, if_false, reduceCtorEq, forall_const, ite_true, ite_false, implies_true, walkS, tabS, Tryd.results11, b1, b2, b3, b4, gs, wk]
  refine ⟨⟨k + 1, hlt⟩, ?_, by show m - (k + 1) < m - k; omega⟩
  refine weak_mk rfl (by first | exact Nat.le_refl _ | (simp only [mk_gen]; omega)) ?_ ?_ <;> simp +decide only [w_lookup_nil, w_lookup_cons, ch_ch, ch_lit, lit_ch, wkT, wkH, wkB, WVL, WV_refl', Int.natCast_zero, Int.natCast_add, Int.natCast_one, Nat.sub_self, Nat.sub_zero, List.replicate_zero, List.take_zero, List.nil_append, List.append_nil, fillC_zero, Nat.reduceDiv, Nat.reduceAdd, upd_bk, bk_at, getB_zero, getB_succ, modB_zero, modB_succ, rows_lit, repB_zero, repB_succ, List.length_cons, List.length_nil, upd_upd_same, upd_apply, mk_tmp, mk_heap, mk_gen, lookupA, lookupH, List.getD_cons_zero, List.getD_cons_succ, init_two, tops, Bool.true_and, and_self, and_true, true_and, true_or, if_true, if_false, ite_true, ite_false, reduceCtorEq, reduceIte, hZ]
theorem den_specRasterTextYes (s : Int) (n m : Nat) (hs cl : List Int) (hT : OkRas s n m hs cl) : Den Tryd.prog 5 [rasV s n m hs cl] (.t (gridK wRas s n m hs cl n m)) := by
  refine den_of_awpG (ghs [] [1]) Tryd.func5 rfl (by kernel_rfl) (Nat.le_of_ble_eq_true rfl) (by simp only [treeL, AVal.tree, treeL_i, treeL_ints, treeL_u8, treeL_append, Bool.and_self, Bool.and_true, Bool.true_and]) (by first | rfl | simp only [treeL, AVal.tree, treeL_i, treeL_ints, treeL_u8, treeL_append, Bool.and_self, Bool.and_true, Bool.true_and]) mixed (by kernel_rfl) fun hl => ?_
  simp only [lensL, lens, lensL_i, lensL_mapC, maxI, and_true, true_and] at hl
  rw [Tryd.ntmps5]
  refine ex_start ?_
  simp (config := { maxSteps := 1000000 }) +decide only [NoH, Old, OldL, nilQ, nilA, asgn, nz, RechL, ReY, isNew, stepO, XPost, postN, XOk, updN, updU, isEff, avalue, aeff, ASt.eval, ASt.put, ASt.set, ASt.new, Nat.reduceDiv, Nat.reduceAdd, Int.reduceToNat, absV, absC, scalar, alen, acap, conc, flats, live, blkOf, aload, rd, part?, afieldAddr, afield, aindexAddr, cellsOf, afill, places, abuild, optI, asliceV, asliceS, szOk, srcCells, aappend, acopy, astore, amakeSlice, abuildSlice, snapL, mapO, treeL, AVal.tree, AVal.flatT, isFlat, ares, isFz, afroz, afrozB, lookupA, lookupH, tops, if_true, if_false, reduceCtorEq, forall_const, ite_true, ite_false, implies_true, walkS, tabS, Tryd.results5]
  refine callK (den_l20Ok s n m hs cl) (by first | exact .inl rfl | exact .inr rfl) ?_
  simp (config := { maxSteps := 1000000 }) +decide only [NoH, Old, OldL, nilQ, nilA, asgn, nz, RechL, ReY, isNew, stepO, XPost, postN, XOk, updN, updU, isEff, avalue, aeff, ASt.eval, ASt.put, ASt.set, ASt.new, Nat.reduceDiv, Nat.reduceAdd, Int.reduceToNat, absV, absC, scalar, alen, acap, conc, flats, live, blkOf, aload, rd, part?, afieldAddr, afield, aindexAddr, cellsOf, afill, places, abuild, optI, asliceV, asliceS, szOk, srcCells, aappend, acopy, astore, amakeSlice, abuildSlice, snapL, mapO, treeL, AVal.tree, AVal.flatT, isFlat, ares, isFz, afroz, afrozB, lookupA, lookupH, tops, if_true, if_false, reduceCtorEq, forall_const, ite_true, ite_false, implies_true, walkS, tabS, Tryd.results5, eq_true hT]
  refine callK (den_l20Text s n m hs cl hT) (by first | exact .inl rfl | exact .inr rfl) ?_
  simp (config := { maxSteps := 1000000 }) +decide only [NoH, Old, OldL, nilQ, nilA, asgn, nz, RechL, ReY, isNew, stepO, XPost, postN, XOk, updN, updU, isEff, avalue, aeff, ASt.eval, ASt.put, ASt.set, ASt.new, Nat.reduceDiv, Nat.reduceAdd, Int.reduceToNat, absV, absC, scalar, alen, acap, conc, flats, live, blkOf, aload, rd, part?, afieldAddr, afield, aindexAddr, cellsOf, afill, places, abuild, optI, asliceV, asliceS, szOk, srcCells, aappend, acopy, astore, amakeSlice, abuildSlice, snapL, mapO, treeL, AVal.tree, AVal.flatT, isFlat, ares, isFz, afroz, afrozB, lookupA, lookupH, tops, if_true, if_false, reduceCtorEq, forall_const, ite_true, ite_false, implies_true, walkS, tabS, Tryd.results5]
theorem den_specRasterTextNo (s w h : Int) (hs cl : List Int) (hT : ¬ OkRas s w h hs cl) : Den Tryd.prog 5 [rasV s w h hs cl] (.t []) := by
  refine den_of_awpG (ghs [] [1]) Tryd.func5 rfl (by kernel_rfl) (Nat.le_of_ble_eq_true rfl) (by simp only [treeL, AVal.tree, treeL_i, treeL_ints, treeL_u8, treeL_append, Bool.and_self, Bool.and_true, Bool.true_and]) (by first | rfl | simp only [treeL, AVal.tree, treeL_i, treeL_ints, treeL_u8, treeL_append, Bool.and_self, Bool.and_true, Bool.true_and]) mixed (by kernel_rfl) fun hl => ?_
  simp only [lensL, lens, lensL_i, lensL_mapC, maxI, and_true, true_and] at hl
  rw [Tryd.ntmps5]
  refine ex_start ?_
  simp (config := { maxSteps := 1000000 }) +decide only [NoH, Old, OldL, nilQ, nilA, asgn, nz, RechL, ReY, isNew, stepO, XPost, postN, XOk, updN, updU, isEff, avalue, aeff, ASt.eval, ASt.put, ASt.set, ASt.new, Nat.reduceDiv, Nat.reduceAdd, Int.reduceToNat, absV, absC, scalar, alen, acap, conc, flats, live, blkOf, aload, rd, part?, afieldAddr, afield, aindexAddr, cellsOf, afill, places, abuild, optI, asliceV, asliceS, szOk, srcCells, aappend, acopy, astore, amakeSlice, abuildSlice, snapL, mapO, treeL, AVal.tree, AVal.flatT, isFlat, ares, isFz, afroz, afrozB, lookupA, lookupH, tops, if_true, if_false, reduceCtorEq, forall_const, ite_true, ite_false, implies_true, walkS, tabS, Tryd.results5]
  refine callK (den_l20Ok s w h hs cl) (by first | exact .inl rfl | exact .inr rfl) ?_
  simp (config := { maxSteps := 1000000 }) +decide only [NoH, Old, OldL, nilQ, nilA, asgn, nz, RechL, ReY, isNew, stepO, XPost, postN, XOk, updN, updU, isEff, avalue, aeff, ASt.eval, ASt.put, ASt.set, ASt.new, Nat.reduceDiv, Nat.reduceAdd, Int.reduceToNat, absV, absC, scalar, alen, acap, conc, flats, live, blkOf, aload, rd, part?, afieldAddr, afield, aindexAddr, cellsOf, afill, places, abuild, optI, asliceV, asliceS, szOk, srcCells, aappend, acopy, astore, amakeSlice, abuildSlice, snapL, mapO, treeL, AVal.tree, AVal.flatT, isFlat, ares, isFz, afroz, afrozB, lookupA, lookupH, tops, if_true, if_false, reduceCtorEq, forall_const, ite_true, ite_false, implies_true, walkS, tabS, Tryd.results5, eq_false hT]
/-- the text of a raster, none of one that is not valid -/
noncomputable def rT (s w h : Int) (hs cl : List Int) : List UInt8 := if bp (OkRas s w h hs cl) = true then gridK wRas s w.toNat h.toNat hs cl w.toNat h.toNat else []
theorem ok_nats {s w h : Int} {hs cl : List Int} (hT : OkRas s w h hs cl) : ((w.toNat : Nat) : Int) = w ∧ ((h.toNat : Nat) : Int) = h := by
  have h1 := hT.1.2.1
  have h2 := hT.1.2.2.1
  omega
theorem den_specRasterText (s w h : Int) (hs cl : List Int) : Den Tryd.prog 5 [rasV s w h hs cl] (.t (rT s w h hs cl)) := by
  unfold rT
  by_cases hT : OkRas s w h hs cl
  · rw [if_pos (by rw [bp_true]; exact hT)]
    obtain ⟨e1, e2⟩ := ok_nats hT
    rw [e1, e2]
    have hT' := hT
    rw [← e1, ← e2] at hT'
    have := den_specRasterTextYes s w.toNat h.toNat hs cl hT'
    rw [e1, e2] at this
    exact this
  · rw [if_neg (by rw [bp_true]; exact hT)]
    exact den_specRasterTextNo s w h hs cl hT
theorem den_implRasterText (s w h : Int) (hs cl : List Int) : Den Tryd.prog 7 [rasV s w h hs cl] (.t (rT s w h hs cl)) := by
  unfold rT
  by_cases hT : OkRas s w h hs cl
  · rw [if_pos (by rw [bp_true]; exact hT)]
    obtain ⟨e1, e2⟩ := ok_nats hT
    rw [e1, e2]
    have hT' := hT
    rw [← e1, ← e2] at hT'
    have := den_RasterText s w.toNat h.toNat hs cl hT'
    rw [e1, e2] at this
    exact this
  · rw [if_neg (by rw [bp_true]; exact hT)]
    exact den_RasterTextNo s w h hs cl hT
end Go.Proofs.YtnklfhjpigameaaDoor
