/-
  OWN WORK: terrains as texts.
-/
import Derived.Test.YtiaemddmkmfijaaGreatDoorTeR
import Derived.Test.YtiaemddmkmfijaaGreatDoorGtA
import Derived.Test.YtiaemddmkmfijaaGreatDoorTxG
namespace Go.Proofs.YtiaemddmkmfijaaGreatDoor
open Go Go.Own Go.Proofs
set_option maxHeartbeats 4000000
set_option maxRecDepth 20000
set_option linter.unusedSimpArgs false
set_option linter.unusedVariables false
theorem den_ListTextN {xs : List Int} {n : Nat} (hx : xs.length = n) (hn : n ≤ 64) (h : ∀ x ∈ xs, In12 x) : Den Tryz.prog 57 [.lst (mapC AVal.i xs) n] (.t (numsT xs)) := by
  subst hx
  exact den_ListText xs hn h
theorem den_ReadListN {xs : List Int} {n : Nat} (hx : xs.length = n) (h0 : 1 ≤ n) (hn : n ≤ 64) (h : ∀ x ∈ xs, In12 x) : Den Tryz.prog 61 [.t (numsT xs)] (.tup [.lst (mapC AVal.i xs) n, .b true]) := by
  subst hx
  exact den_ReadList xs (fun e => by rw [e] at h0; simp at h0) hn h
def wTer : List UInt8 := [116, 101, 114, 114, 97, 105, 110]
theorem addT (a b : List UInt8) (h : a.length + b.length ≤ 1000000) (x y : Operand) : semS Tryz.prog (do eqGuard .add 9 x y (.string (bt a)) (.string (bt b)); binOp .add 9 (.string (bt a)) (.string (bt b))) = some (.flat (.string (bt (a ++ b)))) := sem_addT Tryz.prog 9 x y a b (by omega)
theorem ter_in12 {xs : List Int} {M : Int} (hM : M ≤ 1000000) (h : ∀ x ∈ xs, 0 ≤ x ∧ x ≤ M) : ∀ x ∈ xs, In12 x := fun x hx => by have := h x hx; exact ⟨by omega, by omega⟩
theorem den_TerrainTextNo (s w h : Int) (hs cl : List Int) (hT : ¬ OkTer s w h hs cl) : Den Tryz.prog 20 [terV s w h hs cl] (.t []) := by
  refine den_of_awpG (ghs [] [1]) Tryz.func20 rfl (by kernel_rfl) (Nat.le_of_ble_eq_true rfl) (by simp only [treeL, AVal.tree, treeL_i, treeL_ints, treeL_u8, treeL_append, Bool.and_self, Bool.and_true, Bool.true_and]) (by first | rfl | simp only [treeL, AVal.tree, treeL_i, treeL_ints, treeL_u8, treeL_append, Bool.and_self, Bool.and_true, Bool.true_and]) mixed (by kernel_rfl) fun hl => ?_
  simp only [lensL, lens, lensL_i, lensL_mapC, maxI, and_true, true_and] at hl
  rw [Tryz.ntmps20]
  refine ex_start ?_
  simp (config := { maxSteps := 1000000 }) +decide only [NoH, Old, OldL, nilQ, nilA, asgn, nz, RechL, ReY, isNew, stepO, XPost, postN, XOk, updN, updU, isEff, avalue, aeff, ASt.eval, ASt.put, ASt.set, ASt.new, Nat.reduceDiv, Nat.reduceAdd, Int.reduceToNat, absV, absC, scalar, alen, acap, conc, flats, live, blkOf, aload, rd, part?, afieldAddr, afield, aindexAddr, cellsOf, afill, places, abuild, optI, asliceV, asliceS, szOk, srcCells, aappend, acopy, astore, amakeSlice, abuildSlice, snapL, mapO, treeL, AVal.tree, AVal.flatT, isFlat, ares, isFz, afroz, afrozB, lookupA, lookupH, tops, if_true, if_false, reduceCtorEq, forall_const, ite_true, ite_false, implies_true, walkS, tabS, Tryz.results20]
  refine callK (den_implValidTerrain s w h hs cl) (by first | exact .inl rfl | exact .inr rfl) ?_
  simp (config := { maxSteps := 1000000 }) +decide only [NoH, Old, OldL, nilQ, nilA, asgn, nz, RechL, ReY, isNew, stepO, XPost, postN, XOk, updN, updU, isEff, avalue, aeff, ASt.eval, ASt.put, ASt.set, ASt.new, Nat.reduceDiv, Nat.reduceAdd, Int.reduceToNat, absV, absC, scalar, alen, acap, conc, flats, live, blkOf, aload, rd, part?, afieldAddr, afield, aindexAddr, cellsOf, afill, places, abuild, optI, asliceV, asliceS, szOk, srcCells, aappend, acopy, astore, amakeSlice, abuildSlice, snapL, mapO, treeL, AVal.tree, AVal.flatT, isFlat, ares, isFz, afroz, afrozB, lookupA, lookupH, tops, if_true, if_false, reduceCtorEq, forall_const, ite_true, ite_false, implies_true, walkS, tabS, Tryz.results20, eq_false hT]
theorem den_TerrainText (s : Int) (n m : Nat) (hs cl : List Int) (hT : OkTer s n m hs cl) : Den Tryz.prog 20 [terV s n m hs cl] (.t (gridK wTer s n m hs cl n m)) := by
  have hz := hT.1
  have hl0 : hs.length = n * m := by have := hT.2.1; have e : ((n * m : Nat) : Int) = (n : Int) * m := Int.natCast_mul n m; omega
  have hc0 : cl.length = n * m := by have := hT.2.2.1; omega
  have ih := ter_in12 (by omega) hT.2.2.2.1
  have ic := ter_in12 (by omega) hT.2.2.2.2
  have s12 : In12 s := ⟨by have := hz.1; omega, by have := hz.1; omega⟩
  have n12 : In12 n := ⟨by omega, by have := hz.2.1; omega⟩
  have m12 : In12 m := ⟨by omega, by have := hz.2.2.1; omega⟩
  have n24 : n ≤ 24 := by have := hz.2.1; omega
  have m24 : m ≤ 24 := by have := hz.2.2.1; omega
  have bs1 := hz.1
  have bn1 := hz.2.1
  have bm1 := hz.2.2.1
  have i1 := itoa_len12 s12
  have i2 := itoa_len12 n12
  have i3 := itoa_len12 m12
  have gz := gridK_zero wTer s n m hs cl n
  have gl := gridK_len (word := wTer) (by decide) s12 n12 m12 hl0 hc0 ih ic n24
  have a1 := addT [116, 101, 114, 114, 97, 105, 110, 32] (Lib.itoa s) (by simp; omega)
  have a2 := addT (116 :: 101 :: 114 :: 114 :: 97 :: 105 :: 110 :: 32 :: (Lib.itoa s)) ([32]) (by simp; omega)
  have a3 := addT (116 :: 101 :: 114 :: 114 :: 97 :: 105 :: 110 :: 32 :: (Lib.itoa s ++ [32])) (Lib.itoa n) (by simp; omega)
  have a4 := addT (116 :: 101 :: 114 :: 114 :: 97 :: 105 :: 110 :: 32 :: (Lib.itoa s ++ [32] ++ Lib.itoa n)) ([32]) (by simp; omega)
  have a5 := addT (116 :: 101 :: 114 :: 114 :: 97 :: 105 :: 110 :: 32 :: (Lib.itoa s ++ [32] ++ Lib.itoa n ++ [32])) (Lib.itoa m) (by simp; omega)
  have a6 := addT (116 :: 101 :: 114 :: 114 :: 97 :: 105 :: 110 :: 32 :: (Lib.itoa s ++ [32] ++ Lib.itoa n ++ [32] ++ Lib.itoa m)) ([10]) (by simp; omega)
  have ez : (116 :: 101 :: 114 :: 114 :: 97 :: 105 :: 110 :: 32 :: (Lib.itoa s ++ [32] ++ Lib.itoa n ++ [32] ++ Lib.itoa m ++ [10])) = gridK wTer s n m hs cl n 0 := by rw [gz]; rfl
  refine den_of_awpG (ghs [] [1]) Tryz.func20 rfl (by kernel_rfl) (Nat.le_of_ble_eq_true rfl) (by simp only [treeL, AVal.tree, treeL_i, treeL_ints, treeL_u8, treeL_append, Bool.and_self, Bool.and_true, Bool.true_and]) (by first | rfl | simp only [treeL, AVal.tree, treeL_i, treeL_ints, treeL_u8, treeL_append, Bool.and_self, Bool.and_true, Bool.true_and]) mixed (by kernel_rfl) fun hl => ?_
  simp only [lensL, lens, lensL_i, lensL_mapC, maxI, and_true, true_and] at hl
  rw [Tryz.ntmps20]
  refine ex_start ?_
  simp (config := { maxSteps := 1000000 }) +decide only [NoH, Old, OldL, nilQ, nilA, asgn, nz, RechL, ReY, isNew, stepO, XPost, postN, XOk, updN, updU, isEff, avalue, aeff, ASt.eval, ASt.put, ASt.set, ASt.new, Nat.reduceDiv, Nat.reduceAdd, Int.reduceToNat, absV, absC, scalar, alen, acap, conc, flats, live, blkOf, aload, rd, part?, afieldAddr, afield, aindexAddr, cellsOf, afill, places, abuild, optI, asliceV, asliceS, szOk, srcCells, aappend, acopy, astore, amakeSlice, abuildSlice, snapL, mapO, treeL, AVal.tree, AVal.flatT, isFlat, ares, isFz, afroz, afrozB, lookupA, lookupH, tops, if_true, if_false, reduceCtorEq, forall_const, ite_true, ite_false, implies_true, walkS, tabS, Tryz.results20]
  refine callK (den_implValidTerrain s n m hs cl) (by first | exact .inl rfl | exact .inr rfl) ?_
  simp (config := { maxSteps := 1000000 }) +decide only [NoH, Old, OldL, nilQ, nilA, asgn, nz, RechL, ReY, isNew, stepO, XPost, postN, XOk, updN, updU, isEff, avalue, aeff, ASt.eval, ASt.put, ASt.set, ASt.new, Nat.reduceDiv, Nat.reduceAdd, Int.reduceToNat, absV, absC, scalar, alen, acap, conc, flats, live, blkOf, aload, rd, part?, afieldAddr, afield, aindexAddr, cellsOf, afill, places, abuild, optI, asliceV, asliceS, szOk, srcCells, aappend, acopy, astore, amakeSlice, abuildSlice, snapL, mapO, treeL, AVal.tree, AVal.flatT, isFlat, ares, isFz, afroz, afrozB, lookupA, lookupH, tops, if_true, if_false, reduceCtorEq, forall_const, ite_true, ite_false, implies_true, walkS, tabS, Tryz.results20, eq_true hT]
  refine callK (den_Decimal s (by omega) (by omega)) (by first | exact .inl rfl | exact .inr rfl) ?_
  simp (config := { maxSteps := 1000000 }) +decide only [NoH, Old, OldL, nilQ, nilA, asgn, nz, RechL, ReY, isNew, stepO, XPost, postN, XOk, updN, updU, isEff, avalue, aeff, ASt.eval, ASt.put, ASt.set, ASt.new, Nat.reduceDiv, Nat.reduceAdd, Int.reduceToNat, absV, absC, scalar, alen, acap, conc, flats, live, blkOf, aload, rd, part?, afieldAddr, afield, aindexAddr, cellsOf, afill, places, abuild, optI, asliceV, asliceS, szOk, srcCells, aappend, acopy, astore, amakeSlice, abuildSlice, snapL, mapO, treeL, AVal.tree, AVal.flatT, isFlat, ares, isFz, afroz, afrozB, lookupA, lookupH, tops, if_true, if_false, reduceCtorEq, forall_const, ite_true, ite_false, implies_true, walkS, tabS, Tryz.results20, a1, a2]
  refine callK (den_Decimal n (by omega) (by omega)) (by first | exact .inl rfl | exact .inr rfl) ?_
  simp (config := { maxSteps := 1000000 }) +decide only [NoH, Old, OldL, nilQ, nilA, asgn, nz, RechL, ReY, isNew, stepO, XPost, postN, XOk, updN, updU, isEff, avalue, aeff, ASt.eval, ASt.put, ASt.set, ASt.new, Nat.reduceDiv, Nat.reduceAdd, Int.reduceToNat, absV, absC, scalar, alen, acap, conc, flats, live, blkOf, aload, rd, part?, afieldAddr, afield, aindexAddr, cellsOf, afill, places, abuild, optI, asliceV, asliceS, szOk, srcCells, aappend, acopy, astore, amakeSlice, abuildSlice, snapL, mapO, treeL, AVal.tree, AVal.flatT, isFlat, ares, isFz, afroz, afrozB, lookupA, lookupH, tops, if_true, if_false, reduceCtorEq, forall_const, ite_true, ite_false, implies_true, walkS, tabS, Tryz.results20, a1, a2, a3, a4]
  refine callK (den_Decimal m (by omega) (by omega)) (by first | exact .inl rfl | exact .inr rfl) ?_
  simp (config := { maxSteps := 1000000 }) +decide only [NoH, Old, OldL, nilQ, nilA, asgn, nz, RechL, ReY, isNew, stepO, XPost, postN, XOk, updN, updU, isEff, avalue, aeff, ASt.eval, ASt.put, ASt.set, ASt.new, Nat.reduceDiv, Nat.reduceAdd, Int.reduceToNat, absV, absC, scalar, alen, acap, conc, flats, live, blkOf, aload, rd, part?, afieldAddr, afield, aindexAddr, cellsOf, afill, places, abuild, optI, asliceV, asliceS, szOk, srcCells, aappend, acopy, astore, amakeSlice, abuildSlice, snapL, mapO, treeL, AVal.tree, AVal.flatT, isFlat, ares, isFz, afroz, afrozB, lookupA, lookupH, tops, if_true, if_false, reduceCtorEq, forall_const, ite_true, ite_false, implies_true, walkS, tabS, Tryz.results20, a1, a2, a3, a4, a5, a6, ez]
  refine ex_loop (fun k : {k : Nat // k ≤ m} => mkG (ghs [] [1]) [(1, .iptr (terC s n m hs cl) 0), (3, .t (gridK wTer s n m hs cl n k.1)), (25, .i m), (26, .i k.1)] [] 0 58) (fun k => m - k.1) ⟨0, Nat.zero_le _⟩ ?_ ?_
  · refine weak_mk rfl (by first | exact Nat.le_refl _ | (simp only [mk_gen]; omega)) ?_ ?_ <;> simp +decide only [w_lookup_nil, w_lookup_cons, ch_ch, ch_lit, lit_ch, wkT, wkH, wkB, WVL, WV_refl', Int.natCast_zero, Int.natCast_add, Int.natCast_one, Nat.sub_self, Nat.sub_zero, List.replicate_zero, List.take_zero, List.nil_append, List.append_nil, fillC_zero, Nat.reduceDiv, Nat.reduceAdd, upd_bk, bk_at, getB_zero, getB_succ, modB_zero, modB_succ, rows_lit, repB_zero, repB_succ, List.length_cons, List.length_nil, upd_upd_same, upd_apply, mk_tmp, mk_heap, mk_gen, lookupA, lookupH, List.getD_cons_zero, List.getD_cons_succ, init_two, tops, Bool.true_and, and_self, and_true, true_and, true_or, if_true, if_false, ite_true, ite_false, reduceCtorEq, reduceIte]
  rintro ⟨k, k1⟩
  have k1' : k ≤ m := k1
  by_cases hlt : k < m
  case neg =>
    have e : k = m := by omega
    subst e
    have hltI : ¬ (k : Int) < (k : Int) := by omega
    simp (config := { maxSteps := 1000000 }) +decide only [NoH, Old, OldL, nilQ, nilA, asgn, nz, RechL, ReY, isNew, stepO, XPost, postN, XOk, updN, updU, isEff, avalue, aeff, ASt.eval, ASt.put, ASt.set, ASt.new, Nat.reduceDiv, Nat.reduceAdd, Int.reduceToNat, absV, absC, scalar, alen, acap, conc, flats, live, blkOf, aload, rd, part?, afieldAddr, afield, aindexAddr, cellsOf, afill, places, abuild, optI, asliceV, asliceS, szOk, srcCells, aappend, acopy, astore, amakeSlice, abuildSlice, snapL, mapO, treeL, AVal.tree, AVal.flatT, isFlat, ares, isFz, afroz, afrozB, lookupA, lookupH, tops, if_true, if_false, reduceCtorEq, forall_const, ite_true, ite_false, implies_true, walkS, tabS, Tryz.results20, eq_false hltI]
  have hltI : (k : Int) < (m : Int) := by omega
  have wk : IntKind.i64.wrap ((k : Int) + 1) = ((k + 1 : Nat) : Int) := wrap64 (by omega) (by omega)
  have km : (k + 1) * n ≤ m * n := Nat.mul_le_mul_right n hlt
  rw [Nat.succ_mul, Nat.mul_comm m n] at km
  have nm : n * m ≤ 24 * 24 := Nat.mul_le_mul n24 m24
  have ek : (k : Int) * (n : Int) = ((k * n : Nat) : Int) := (Int.natCast_mul k n).symm
  have q1 : IntKind.i64.wrap ((k : Int) * (n : Int)) = ((k * n : Nat) : Int) := (wrap64 (by omega) (by omega)).trans ek
  have q2 : IntKind.i64.wrap (((k * n : Nat) : Int) + (n : Int)) = ((k * n + n : Nat) : Int) := wrap64 (by omega) (by omega)
  have jn : k * n + n - k * n = n := by omega
  have jle : k * n ≤ k * n + n := by omega
  have jh : k * n + n ≤ hs.length := by omega
  have jc : k * n + n ≤ cl.length := by omega
  have er : List.take n (List.drop (k * n) hs) = rowL hs n k := rfl
  have er' : List.take n (List.drop (k * n) cl) = rowL cl n k := rfl
  have d1 := den_ListTextN (rowL_len hl0 hlt) (by omega) (rowL_in ih)
  have d2 := den_ListTextN (rowL_len hc0 hlt) (by omega) (rowL_in ic)
  have ⟨r1, r2⟩ := rowT_len hl0 hc0 hlt ih ic n24
  have g0 := gl k (by omega)
  have gs := gridK_snoc wTer s n m hs cl n k
  obtain ⟨Z, hZ⟩ : ∃ Z, gridK wTer s n m hs cl n (k + 1) = Z := ⟨_, rfl⟩
  rw [hZ] at gs
  generalize gridK wTer s n m hs cl n k = X at *
  generalize numsT (rowL hs n k) = A at *
  generalize numsT (rowL cl n k) = B at *
  have b1 := addT A [32] (by simp; omega)
  have b2 := addT (A ++ [32]) B (by simp; omega)
  have b3 := addT (A ++ [32] ++ B) [10] (by simp; omega)
  have b4 := addT X (A ++ [32] ++ B ++ [10]) (by simp; omega)
  simp (config := { maxSteps := 1000000 }) +decide only [NoH, Old, OldL, nilQ, nilA, asgn, nz, RechL, ReY, isNew, stepO, XPost, postN, XOk, updN, updU, isEff, avalue, aeff, ASt.eval, ASt.put, ASt.set, ASt.new, Nat.reduceDiv, Nat.reduceAdd, Int.reduceToNat, absV, absC, scalar, alen, acap, conc, flats, live, blkOf, aload, rd, part?, afieldAddr, afield, aindexAddr, cellsOf, afill, places, abuild, optI, asliceV, asliceS, szOk, srcCells, aappend, acopy, astore, amakeSlice, abuildSlice, snapL, mapO, treeL, AVal.tree, AVal.flatT, isFlat, ares, isFz, afroz, afrozB, lookupA, lookupH, tops, if_true, if_false, reduceCtorEq, forall_const, ite_true, ite_false, implies_true, walkS, tabS, Tryz.results20, eq_true hltI, q1, q2, jn, jle, jh, jc, er]
  refine callK (d1) (by first | exact .inl rfl | exact .inr rfl) ?_
  simp (config := { maxSteps := 1000000 }) +decide only [NoH, Old, OldL, nilQ, nilA, asgn, nz, RechL, ReY, isNew, stepO, XPost, postN, XOk, updN, updU, isEff, avalue, aeff, ASt.eval, ASt.put, ASt.set, ASt.new, Nat.reduceDiv, Nat.reduceAdd, Int.reduceToNat, absV, absC, scalar, alen, acap, conc, flats, live, blkOf, aload, rd, part?, afieldAddr, afield, aindexAddr, cellsOf, afill, places, abuild, optI, asliceV, asliceS, szOk, srcCells, aappend, acopy, astore, amakeSlice, abuildSlice, snapL, mapO, treeL, AVal.tree, AVal.flatT, isFlat, ares, isFz, afroz, afrozB, lookupA, lookupH, tops, if_true, if_false, reduceCtorEq, forall_const, ite_true, ite_false, implies_true, walkS, tabS, Tryz.results20, b1, q1, q2, jn, jle, jh, jc, er']
  refine callK (d2) (by first | exact .inl rfl | exact .inr rfl) ?_
  simp (config := { maxSteps := 1000000 }) +decide only [NoH, Old, OldL, nilQ, nilA, asgn, nz, RechL, ReY, isNew, stepO, XPost, postN, XOk, updN, updU, isEff, avalue, aeff, ASt.eval, ASt.put, ASt.set, ASt.new, Nat.reduceDiv, Nat.reduceAdd, Int.reduceToNat, absV, absC, scalar, alen, acap, conc, flats, live, blkOf, aload, rd, part?, afieldAddr, afield, aindexAddr, cellsOf, afill, places, abuild, optI, asliceV, asliceS, szOk, srcCells, aappend, acopy, astore, amakeSlice, abuildSlice, snapL, mapO, treeL, AVal.tree, AVal.flatT, isFlat, ares, isFz, afroz, afrozB, lookupA, lookupH, tops, if_true, if_false, reduceCtorEq, forall_const, ite_true, ite_false, implies_true, walkS, tabS, Tryz.results20, b1, b2, b3, b4, gs, wk]
  refine ⟨⟨k + 1, hlt⟩, ?_, by show m - (k + 1) < m - k; omega⟩
  refine weak_mk rfl (by first | exact Nat.le_refl _ | (simp only [mk_gen]; omega)) ?_ ?_ <;> simp +decide only [w_lookup_nil, w_lookup_cons, ch_ch, ch_lit, lit_ch, wkT, wkH, wkB, WVL, WV_refl', Int.natCast_zero, Int.natCast_add, Int.natCast_one, Nat.sub_self, Nat.sub_zero, List.replicate_zero, List.take_zero, List.nil_append, List.append_nil, fillC_zero, Nat.reduceDiv, Nat.reduceAdd, upd_bk, bk_at, getB_zero, getB_succ, modB_zero, modB_succ, rows_lit, repB_zero, repB_succ, List.length_cons, List.length_nil, upd_upd_same, upd_apply, mk_tmp, mk_heap, mk_gen, lookupA, lookupH, List.getD_cons_zero, List.getD_cons_succ, init_two, tops, Bool.true_and, and_self, and_true, true_and, true_or, if_true, if_false, ite_true, ite_false, reduceCtorEq, reduceIte, hZ]
end Go.Proofs.YtiaemddmkmfijaaGreatDoor
