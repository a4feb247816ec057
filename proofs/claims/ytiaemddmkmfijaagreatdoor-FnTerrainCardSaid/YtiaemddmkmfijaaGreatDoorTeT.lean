/-
  OWN WORK: terrains read back from their texts.
-/
import Derived.Test.YtiaemddmkmfijaaGreatDoorTeS
namespace Go.Proofs.YtiaemddmkmfijaaGreatDoor
open Go Go.Own Go.Proofs
set_option maxHeartbeats 4000000
set_option maxRecDepth 20000
set_option linter.unusedSimpArgs false
set_option linter.unusedVariables false
def threeL (s n m : Int) : List Int := [s, n, m]
def threeT (s n m : Int) : List (List UInt8) := [Lib.itoa s, Lib.itoa n, Lib.itoa m]
def threeK (s n m : Int) (k : Nat) : List Int := (threeL s n m).take k ++ List.replicate (3 - k) 0
theorem three_cases {k : Nat} (h : k < 3) : k = 0 ∨ k = 1 ∨ k = 2 := by omega
theorem threeT_at (s n m : Int) {k : Nat} (h : k < 3) : (mapC AVal.t (threeT s n m))[k]? = some (.t (Lib.itoa ((threeL s n m).getD k 0))) := by
  rcases three_cases h with rfl | rfl | rfl <;> rfl
theorem threeK_set (s n m : Int) {k : Nat} (h : k < 3) (v : Int) (hv : (threeL s n m).getD k 0 = v) : lay (mapC AVal.i (threeK s n m k)) k [.i v] = mapC AVal.i (threeK s n m (k + 1)) := by
  subst hv
  rcases three_cases h with rfl | rfl | rfl <;> rfl
theorem threeK_len (s n m : Int) {k : Nat} (h : k ≤ 3) : (mapC AVal.i (threeK s n m k)).length = 3 := by
  simp [mapC, threeK, threeL]
  omega
theorem den_Lines {word : List UInt8} (hw : (10 : UInt8) ∉ word) (s w h : Int) (A B : List Int) (n k : Nat) (hk : k ≤ 24) (hl : (gridK word s w h A B n k).length ≤ 1000000) : Den Tryz.prog 73 [.t (gridK word s w h A B n k), .t [10], .i 26] (.lst (mapC AVal.t (linesT word s w h A B n k)) (k + 2)) := by
  have d := den_SplitN (gridK word s w h A B n k) 10 26 (by omega) (by omega) (by omega)
  have ll := linesT_len word s w h A B n k
  have e := gridK_lines word s w h A B n k
  have jl := join_length (linesT word s w h A B n k) 10
  rw [← e] at jl
  have sp := splitK_join (c := 10) (linesT word s w h A B n k) (min 26 ((gridK word s w h A B n k).length + 1) - 1) (by unfold linesT; simp) (linesT_10 hw s w h A B n k) (by omega)
  rw [← e] at sp
  rw [sp] at d
  have : strs (linesT word s w h A B n k) = .lst (mapC AVal.t (linesT word s w h A B n k)) (k + 2) := by
    show AVal.lst _ _ = _
    rw [ll]
  rw [← this]
  exact d
theorem den_ReadTerrain (s : Int) (n m : Nat) (hs cl : List Int) (hT : OkTer s n m hs cl) : Den Tryz.prog 25 [.t (gridK wTer s n m hs cl n m)] (.tup [terV s n m hs cl, .b true]) := by
  have hz := hT.1
  have hl0 : hs.length = n * m := by have := hT.2.1; have e : ((n * m : Nat) : Int) = (n : Int) * m := Int.natCast_mul n m; omega
  have hc0 : cl.length = n * m := by have := hT.2.2.1; omega
  have ih := ter_in12 (by omega) hT.2.2.2.1
  have ic := ter_in12 (by omega) hT.2.2.2.2
  have s12 : In12 s := ⟨by have := hz.1; omega, by have := hz.1; omega⟩
  have n12 : In12 n := ⟨by omega, by have := hz.2.1; omega⟩
  have m12 : In12 m := ⟨by omega, by have := hz.2.2.1; omega⟩
  have n24 : n ≤ 24 := by have := hz.2.1; omega
  have m24 : m ≤ 24 := by have := hz.2.2.1; omega
  have n1 : 1 ≤ n := by have := hz.2.1; omega
  have gl := gridK_len (word := wTer) (by decide) s12 n12 m12 hl0 hc0 ih ic n24 m (Nat.le_refl _)
  have dL := den_Lines (word := wTer) (by decide) s n m hs cl n m m24 (by omega)
  have dH := den_Split (headF wTer s n m) 32 (by unfold headF; simp) (headF_32 (by decide) s n m) (by
    show (headT wTer s n m).length < _
    rw [headT_eq]
    have i1 := itoa_len12 s12
    have i2 := itoa_len12 n12
    have i3 := itoa_len12 m12
    simp [wTer]
    omega)
  have dT := den_TerrainText s n m hs cl hT
  have gne : ¬ gridK wTer s n m hs cl n m = [] := by
    rw [gridK_lines]
    unfold linesT
    rw [List.cons_append, Lib.join_cons, headT_eq]
    simp [wTer]
  generalize gridK wTer s n m hs cl n m = T at *
  have h0 : (mapC AVal.t (linesT wTer s n m hs cl n m))[0]? = some (.t (Lib.join (headF wTer s n m) [32])) := rfl
  have lF : (headF wTer s n m).length = 4 := rfl
  have e4 : List.take (4 - 1) (List.drop 1 (headF wTer s n m)) = threeT s n m := rfl
  have e5 : (4 - 1 : Nat) = 3 := rfl
  refine den_of_awpG (ghs [] []) Tryz.func25 rfl (by kernel_rfl) (Nat.le_of_ble_eq_true rfl) (by simp only [treeL, AVal.tree, treeL_i, treeL_ints, treeL_u8, treeL_append, Bool.and_self, Bool.and_true, Bool.true_and]) (by first | rfl | simp only [treeL, AVal.tree, treeL_i, treeL_ints, treeL_u8, treeL_append, Bool.and_self, Bool.and_true, Bool.true_and]) mixed (by kernel_rfl) fun hl => ?_
  simp only [lensL, lens, lensL_i, lensL_mapC, maxI, and_true, true_and] at hl
  rw [Tryz.ntmps25]
  refine ex_start ?_
  simp (config := { maxSteps := 1000000 }) +decide only [NoH, Old, OldL, nilQ, nilA, asgn, nz, RechL, ReY, isNew, stepO, XPost, postN, XOk, updN, updU, isEff, avalue, aeff, ASt.eval, ASt.put, ASt.set, ASt.new, Nat.reduceDiv, Nat.reduceAdd, Int.reduceToNat, absV, absC, scalar, alen, acap, conc, flats, live, blkOf, aload, rd, part?, afieldAddr, afield, aindexAddr, cellsOf, afill, places, abuild, optI, asliceV, asliceS, szOk, srcCells, aappend, acopy, astore, amakeSlice, abuildSlice, snapL, mapO, treeL, AVal.tree, AVal.flatT, isFlat, ares, isFz, afroz, afrozB, lookupA, lookupH, tops, if_true, if_false, reduceCtorEq, forall_const, ite_true, ite_false, implies_true, walkS, tabS, Tryz.results25]
  refine callK (dL) (by first | exact .inl rfl | exact .inr rfl) ?_
  have ll := linesT_len wTer s n m hs cl n m
  have p0 : 0 < m + 2 := by omega
  have p0I : (0 : Int) < ((m + 2 : Nat) : Int) := by omega
  simp (config := { maxSteps := 1000000 }) +decide only [NoH, Old, OldL, nilQ, nilA, asgn, nz, RechL, ReY, isNew, stepO, XPost, postN, XOk, updN, updU, isEff, avalue, aeff, ASt.eval, ASt.put, ASt.set, ASt.new, Nat.reduceDiv, Nat.reduceAdd, Int.reduceToNat, absV, absC, scalar, alen, acap, conc, flats, live, blkOf, aload, rd, part?, afieldAddr, afield, aindexAddr, cellsOf, afill, places, abuild, optI, asliceV, asliceS, szOk, srcCells, aappend, acopy, astore, amakeSlice, abuildSlice, snapL, mapO, treeL, AVal.tree, AVal.flatT, isFlat, ares, isFz, afroz, afrozB, lookupA, lookupH, tops, if_true, if_false, reduceCtorEq, forall_const, ite_true, ite_false, implies_true, walkS, tabS, Tryz.results25, h0, ll, p0, p0I]
  refine callK (dH) (by first | exact .inl rfl | exact .inr rfl) ?_
  simp (config := { maxSteps := 1000000 }) +decide only [NoH, Old, OldL, nilQ, nilA, asgn, nz, RechL, ReY, isNew, stepO, XPost, postN, XOk, updN, updU, isEff, avalue, aeff, ASt.eval, ASt.put, ASt.set, ASt.new, Nat.reduceDiv, Nat.reduceAdd, Int.reduceToNat, absV, absC, scalar, alen, acap, conc, flats, live, blkOf, aload, rd, part?, afieldAddr, afield, aindexAddr, cellsOf, afill, places, abuild, optI, asliceV, asliceS, szOk, srcCells, aappend, acopy, astore, amakeSlice, abuildSlice, snapL, mapO, treeL, AVal.tree, AVal.flatT, isFlat, ares, isFz, afroz, afrozB, lookupA, lookupH, tops, if_true, if_false, reduceCtorEq, forall_const, ite_true, ite_false, implies_true, walkS, tabS, Tryz.results25, lF, e4, e5]
  refine ex_loop (fun k : {k : Nat // k ≤ 3} => mkG (ghs [] []) [(0, .t T), (2, .ptr 2 0 0), (4, .lst (mapC AVal.t (linesT wTer s n m hs cl n m)) (m + 2)), (6, .ptr 6 1 0), (30, .lst (mapC AVal.t (threeT s n m)) 3), (31, .i (3 : Nat)), (32, .i k.1)] [(2, ⟨0, 5, [.i 0, .i 0, .i 0, .nl, .nl]⟩), (6, ⟨1, 3, mapC AVal.i (threeK s n m k.1)⟩)] 2 96) (fun k => 3 - k.1) ⟨0, Nat.zero_le _⟩ ?_ ?_
  · have e0 : mapC AVal.i (threeK s n m 0) = [.i 0, .i 0, .i 0] := rfl
    refine weak_mk rfl (by first | exact Nat.le_refl _ | (simp only [mk_gen]; omega)) ?_ ?_ <;> simp +decide only [w_lookup_nil, w_lookup_cons, ch_ch, ch_lit, lit_ch, wkT, wkH, wkB, WVL, WV_refl', Int.natCast_zero, Int.natCast_add, Int.natCast_one, Nat.sub_self, Nat.sub_zero, List.replicate_zero, List.take_zero, List.nil_append, List.append_nil, fillC_zero, Nat.reduceDiv, Nat.reduceAdd, upd_bk, bk_at, getB_zero, getB_succ, modB_zero, modB_succ, rows_lit, repB_zero, repB_succ, List.length_cons, List.length_nil, upd_upd_same, upd_apply, mk_tmp, mk_heap, mk_gen, lookupA, lookupH, List.getD_cons_zero, List.getD_cons_succ, init_two, tops, Bool.true_and, and_self, and_true, true_and, true_or, if_true, if_false, ite_true, ite_false, reduceCtorEq, reduceIte, e0]
  rintro ⟨k, k1⟩
  have k1' : k ≤ 3 := k1
  by_cases hlt : k < 3
  · have hltI : (k : Int) < ((3 : Nat) : Int) := by omega
    have hlt3 : (k : Int) < 3 := by omega
    have wk : IntKind.i64.wrap ((k : Int) + 1) = ((k + 1 : Nat) : Int) := wrap64 (by omega) (by omega)
    have ct := threeT_at s n m hlt
    have lk := threeK_len s n m k1'
    have hlf : k < (threeT s n m).length := hlt
    have bv : In18 ((threeL s n m).getD k 0) := by
      rcases three_cases hlt with rfl | rfl | rfl
      · exact in12 s12
      · exact in12 n12
      · exact in12 m12
    have st := threeK_set s n m hlt _ rfl
    generalize (threeL s n m).getD k 0 = v at *
    simp (config := { maxSteps := 1000000 }) +decide only [NoH, Old, OldL, nilQ, nilA, asgn, nz, RechL, ReY, isNew, stepO, XPost, postN, XOk, updN, updU, isEff, avalue, aeff, ASt.eval, ASt.put, ASt.set, ASt.new, Nat.reduceDiv, Nat.reduceAdd, Int.reduceToNat, absV, absC, scalar, alen, acap, conc, flats, live, blkOf, aload, rd, part?, afieldAddr, afield, aindexAddr, cellsOf, afill, places, abuild, optI, asliceV, asliceS, szOk, srcCells, aappend, acopy, astore, amakeSlice, abuildSlice, snapL, mapO, treeL, AVal.tree, AVal.flatT, isFlat, ares, isFz, afroz, afrozB, lookupA, lookupH, tops, if_true, if_false, reduceCtorEq, forall_const, ite_true, ite_false, implies_true, walkS, tabS, Tryz.results25, eq_true hltI, hlt, hlf, ct]
    refine callK (den_ReadDecimal v bv) (by first | exact .inl rfl | exact .inr rfl) ?_
    simp (config := { maxSteps := 1000000 }) +decide only [NoH, Old, OldL, nilQ, nilA, asgn, nz, RechL, ReY, isNew, stepO, XPost, postN, XOk, updN, updU, isEff, avalue, aeff, ASt.eval, ASt.put, ASt.set, ASt.new, Nat.reduceDiv, Nat.reduceAdd, Int.reduceToNat, absV, absC, scalar, alen, acap, conc, flats, live, blkOf, aload, rd, part?, afieldAddr, afield, aindexAddr, cellsOf, afill, places, abuild, optI, asliceV, asliceS, szOk, srcCells, aappend, acopy, astore, amakeSlice, abuildSlice, snapL, mapO, treeL, AVal.tree, AVal.flatT, isFlat, ares, isFz, afroz, afrozB, lookupA, lookupH, tops, if_true, if_false, reduceCtorEq, forall_const, ite_true, ite_false, implies_true, walkS, tabS, Tryz.results25, hlt, hltI, hlt3, lk, st, wk]
    refine ⟨⟨k + 1, hlt⟩, ?_, by show 3 - (k + 1) < 3 - k; omega⟩
    refine weak_mk rfl (by first | exact Nat.le_refl _ | (simp only [mk_gen]; omega)) ?_ ?_ <;> simp +decide only [w_lookup_nil, w_lookup_cons, ch_ch, ch_lit, lit_ch, wkT, wkH, wkB, WVL, WV_refl', Int.natCast_zero, Int.natCast_add, Int.natCast_one, Nat.sub_self, Nat.sub_zero, List.replicate_zero, List.take_zero, List.nil_append, List.append_nil, fillC_zero, Nat.reduceDiv, Nat.reduceAdd, upd_bk, bk_at, getB_zero, getB_succ, modB_zero, modB_succ, rows_lit, repB_zero, repB_succ, List.length_cons, List.length_nil, upd_upd_same, upd_apply, mk_tmp, mk_heap, mk_gen, lookupA, lookupH, List.getD_cons_zero, List.getD_cons_succ, init_two, tops, Bool.true_and, and_self, and_true, true_and, true_or, if_true, if_false, ite_true, ite_false, reduceCtorEq, reduceIte]
  have ek : k = 3 := by omega
  subst ek
  have hltI : ¬ ((3 : Nat) : Int) < ((3 : Nat) : Int) := by omega
  have cf : mapC AVal.i (threeK s n m 3) = [.i s, .i n, .i m] := rfl
  have e7 : m + 2 - 1 = m + 1 := by omega
  have p1 : 1 ≤ m + 2 := by omega
  have lr : (rowsT hs cl n m ++ [[]]).length = m + 1 := by simp [rowsT_len]
  have e6 : List.take (m + 1) (List.drop 1 (linesT wTer s n m hs cl n m)) = rowsT hs cl n m ++ [[]] := by
    show List.take (m + 1) (rowsT hs cl n m ++ [[]]) = _
    exact List.take_of_length_le (by omega)
  have p2 : m + 1 < m + 2 := by omega
  simp (config := { maxSteps := 1000000 }) +decide only [NoH, Old, OldL, nilQ, nilA, asgn, nz, RechL, ReY, isNew, stepO, XPost, postN, XOk, updN, updU, isEff, avalue, aeff, ASt.eval, ASt.put, ASt.set, ASt.new, Nat.reduceDiv, Nat.reduceAdd, Int.reduceToNat, absV, absC, scalar, alen, acap, conc, flats, live, blkOf, aload, rd, part?, afieldAddr, afield, aindexAddr, cellsOf, afill, places, abuild, optI, asliceV, asliceS, szOk, srcCells, aappend, acopy, astore, amakeSlice, abuildSlice, snapL, mapO, treeL, AVal.tree, AVal.flatT, isFlat, ares, isFz, afroz, afrozB, lookupA, lookupH, tops, if_true, if_false, reduceCtorEq, forall_const, ite_true, ite_false, implies_true, walkS, tabS, Tryz.results25, eq_false hltI, cf, ll, e7, p1, p2, e6]
  refine ex_loopW (fun p : {p : Nat × Nat × Nat × Nat // p.1 ≤ m + 1} => mkG (ghs [] []) [(0, .t T), (2, .ptr 2 0 0), (9, .ptr 9 2 0), (53, .lst (mapC AVal.t (rowsT hs cl n m ++ [[]])) (m + 1)), (54, .i (m + 1 : Nat)), (55, .i p.1.1)] [(2, ⟨0, 5, [.i 0, .i 0, .i 0, .nl, .nl]⟩), (9, ⟨2, 5, [.i s, .i n, .i m, .own 78 p.1.2.1 0 (min p.1.1 m * n), .own 82 p.1.2.2.1 0 (min p.1.1 m * n)]⟩), (78, ⟨p.1.2.1, 1, mapC AVal.i (hs.take (min p.1.1 m * n))⟩), (82, ⟨p.1.2.2.1, 1, mapC AVal.i (cl.take (min p.1.1 m * n))⟩)] p.1.2.2.2 96) (fun p => m + 1 - p.1.1) ⟨(0, 3, 4, 5), Nat.zero_le _⟩ ?_ ?_
  · have e0 : min 0 m * n = 0 := by simp
    refine weak_mk rfl (by first | exact Nat.le_refl _ | (simp only [mk_gen]; omega)) ?_ ?_ <;> simp +decide only [w_lookup_nil, w_lookup_cons, ch_ch, ch_lit, lit_ch, wkT, wkH, wkB, WVL, WV_refl', Int.natCast_zero, Int.natCast_add, Int.natCast_one, Nat.sub_self, Nat.sub_zero, List.replicate_zero, List.take_zero, List.nil_append, List.append_nil, fillC_zero, Nat.reduceDiv, Nat.reduceAdd, upd_bk, bk_at, getB_zero, getB_succ, modB_zero, modB_succ, rows_lit, repB_zero, repB_succ, List.length_cons, List.length_nil, upd_upd_same, upd_apply, mk_tmp, mk_heap, mk_gen, lookupA, lookupH, List.getD_cons_zero, List.getD_cons_succ, init_two, tops, Bool.true_and, and_self, and_true, true_and, true_or, if_true, if_false, ite_true, ite_false, reduceCtorEq, reduceIte, e0, mapC_nil, List.take_zero]
    exact .inr ⟨WV_nl rfl rfl rfl rfl, WV_nl rfl rfl rfl rfl⟩
  rintro ⟨⟨k, g1, g2, G⟩, k1⟩
  have k1' : k ≤ m + 1 := k1
  by_cases hlt : k < m + 1
  case neg =>
    have ek : k = m + 1 := by omega
    subst ek
    have hltI2 : ¬ ((m + 1 : Nat) : Int) < ((m + 1 : Nat) : Int) := by omega
    have em : min (m + 1) m * n = n * m := by rw [Nat.min_eq_right (by omega), Nat.mul_comm]
    have t1 : hs.take (n * m) = hs := List.take_of_length_le (by omega)
    have t2 : cl.take (n * m) = cl := List.take_of_length_le (by omega)
    rw [em, t1, t2]
    simp (config := { maxSteps := 1000000 }) +decide only [NoH, Old, OldL, nilQ, nilA, asgn, nz, RechL, ReY, isNew, stepO, XPost, postN, XOk, updN, updU, isEff, avalue, aeff, ASt.eval, ASt.put, ASt.set, ASt.new, Nat.reduceDiv, Nat.reduceAdd, Int.reduceToNat, absV, absC, scalar, alen, acap, conc, flats, live, blkOf, aload, rd, part?, afieldAddr, afield, aindexAddr, cellsOf, afill, places, abuild, optI, asliceV, asliceS, szOk, srcCells, aappend, acopy, astore, amakeSlice, abuildSlice, snapL, mapO, treeL, AVal.tree, AVal.flatT, isFlat, ares, isFz, afroz, afrozB, lookupA, lookupH, tops, if_true, if_false, reduceCtorEq, forall_const, ite_true, ite_false, implies_true, walkS, tabS, Tryz.results25, eq_false hltI2, lr, loopW_exit]
    refine ⟨mkG (ghs [] []) [(0, .t T), (2, .ptr 2 0 0), (9, .ptr 9 2 0)] [(2, ⟨0, 5, [.i 0, .i 0, .i 0, .nl, .nl]⟩), (9, ⟨2, 5, [.i s, .i n, .i m, ints hs, ints cl]⟩)] G 96, .step ?_ (.refl _), ?_⟩
    · refine weak_mk rfl (by first | exact Nat.le_refl _ | (simp only [mk_gen]; omega)) ?_ ?_ <;> simp +decide only [w_lookup_nil, w_lookup_cons, ch_ch, ch_lit, lit_ch, wkT, wkH, wkB, WVL, WV_refl', Int.natCast_zero, Int.natCast_add, Int.natCast_one, Nat.sub_self, Nat.sub_zero, List.replicate_zero, List.take_zero, List.nil_append, List.append_nil, fillC_zero, Nat.reduceDiv, Nat.reduceAdd, upd_bk, bk_at, getB_zero, getB_succ, modB_zero, modB_succ, rows_lit, repB_zero, repB_succ, List.length_cons, List.length_nil, upd_upd_same, upd_apply, mk_tmp, mk_heap, mk_gen, lookupA, lookupH, List.getD_cons_zero, List.getD_cons_succ, init_two, tops, Bool.true_and, and_self, and_true, true_and, true_or, if_true, if_false, ite_true, ite_false, reduceCtorEq, reduceIte]
      have z1 : ints hs = .lst (mapC AVal.i hs) (n * m) := by show AVal.lst _ _ = _; rw [hl0]
      have z2 : ints cl = .lst (mapC AVal.i cl) (n * m) := by show AVal.lst _ _ = _; rw [hc0]
      rw [z1, z2]
      exact .inr ⟨WV_frz rfl rfl rfl (by simp [mapC, hl0]) (by rw [List.drop_zero]; exact (List.take_of_length_le (by simp [mapC, hl0])).symm) (treeL_i _), WV_frz rfl rfl rfl (by simp [mapC, hc0]) (by rw [List.drop_zero]; exact (List.take_of_length_le (by simp [mapC, hc0])).symm) (treeL_i _)⟩
    · simp (config := { maxSteps := 1000000 }) +decide only [NoH, Old, OldL, nilQ, nilA, asgn, nz, RechL, ReY, isNew, stepO, XPost, postN, XOk, updN, updU, isEff, avalue, aeff, ASt.eval, ASt.put, ASt.set, ASt.new, Nat.reduceDiv, Nat.reduceAdd, Int.reduceToNat, absV, absC, scalar, alen, acap, conc, flats, live, blkOf, aload, rd, part?, afieldAddr, afield, aindexAddr, cellsOf, afill, places, abuild, optI, asliceV, asliceS, szOk, srcCells, aappend, acopy, astore, amakeSlice, abuildSlice, snapL, mapO, treeL, AVal.tree, AVal.flatT, isFlat, ares, isFz, afroz, afrozB, lookupA, lookupH, tops, if_true, if_false, reduceCtorEq, forall_const, ite_true, ite_false, implies_true, walkS, tabS, Tryz.results25]
      refine callK (dT) (by first | exact .inl rfl | exact .inr rfl) ?_
      simp (config := { maxSteps := 1000000 }) +decide only [NoH, Old, OldL, nilQ, nilA, asgn, nz, RechL, ReY, isNew, stepO, XPost, postN, XOk, updN, updU, isEff, avalue, aeff, ASt.eval, ASt.put, ASt.set, ASt.new, Nat.reduceDiv, Nat.reduceAdd, Int.reduceToNat, absV, absC, scalar, alen, acap, conc, flats, live, blkOf, aload, rd, part?, afieldAddr, afield, aindexAddr, cellsOf, afill, places, abuild, optI, asliceV, asliceS, szOk, srcCells, aappend, acopy, astore, amakeSlice, abuildSlice, snapL, mapO, treeL, AVal.tree, AVal.flatT, isFlat, ares, isFz, afroz, afrozB, lookupA, lookupH, tops, if_true, if_false, reduceCtorEq, forall_const, ite_true, ite_false, implies_true, walkS, tabS, Tryz.results25, sem_neqT, sem_eqlT, eq_false gne]
  have hltI : (k : Int) < ((m + 1 : Nat) : Int) := by omega
  have wk : IntKind.i64.wrap ((k : Int) + 1) = ((k + 1 : Nat) : Int) := wrap64 (by omega) (by omega)
  have kl : k < (rowsT hs cl n m ++ [[]]).length := by omega
  have km : min k m * n ≤ m * n := Nat.mul_le_mul_right n (Nat.min_le_right _ _)
  have nm : n * m ≤ 24 * 24 := Nat.mul_le_mul n24 m24
  rw [Nat.mul_comm m n] at km
  have th : (hs.take (min k m * n)).length = min k m * n := by rw [List.length_take]; omega
  have tc : (cl.take (min k m * n)).length = min k m * n := by rw [List.length_take]; omega
  have th2 : (hs.take (min k m * n)).take (min k m * n) = hs.take (min k m * n) := List.take_of_length_le (by omega)
  have tc2 : (cl.take (min k m * n)).take (min k m * n) = cl.take (min k m * n) := List.take_of_length_le (by omega)
  have sn : ∀ A B : List Int, mapC AVal.i A ++ mapC AVal.i B = mapC AVal.i (A ++ B) := fun A B => by simp [mapC]
  have h8 : (min k m * n + n) * 8 ≤ 140737488355328 := by omega
  by_cases hm : k < m
  · have ct : (mapC AVal.t (rowsT hs cl n m ++ [[]]))[k]? = some (.t (rowT hs cl n k)) := by
      have := rowsT_at (A := hs) (B := cl) (n := n) hm
      simp only [mapC, List.getElem?_map]
      rw [List.getElem?_append_left (by rw [rowsT_len]; exact hm), this]
      rfl
    have ⟨r1, r2⟩ := rowT_len hl0 hc0 hm ih ic n24
    have dC := den_Cut (rowT hs cl n k) [32] (by unfold rowT; simp; omega)
    rw [cut_row] at dC
    have d1 := den_ReadListN (rowL_len hl0 hm) n1 (by omega) (rowL_in ih)
    have d2 := den_ReadListN (rowL_len hc0 hm) n1 (by omega) (rowL_in ic)
    have mk0 : min k m = k := Nat.min_eq_left (by omega)
    have mk1 : min (k + 1) m = k + 1 := Nat.min_eq_left (by omega)
    have s1 := rowL_snoc (A := hs) (n := n) (y := k)
    have s2 := rowL_snoc (A := cl) (n := n) (y := k)
    have lr1 := rowL_len hl0 hm
    have lr2 := rowL_len hc0 hm
    have e2 : (k + 1) * n = k * n + n := Nat.succ_mul k n
    have jx : k ≤ m + 1 := by omega
    have e0 : min k m * n = k * n := by rw [mk0]
    rw [e0] at th tc th2 tc2 h8 ⊢
    simp (config := { maxSteps := 1000000 }) +decide only [NoH, Old, OldL, nilQ, nilA, asgn, nz, RechL, ReY, isNew, stepO, XPost, postN, XOk, updN, updU, isEff, avalue, aeff, ASt.eval, ASt.put, ASt.set, ASt.new, Nat.reduceDiv, Nat.reduceAdd, Int.reduceToNat, absV, absC, scalar, alen, acap, conc, flats, live, blkOf, aload, rd, part?, afieldAddr, afield, aindexAddr, cellsOf, afill, places, abuild, optI, asliceV, asliceS, szOk, srcCells, aappend, acopy, astore, amakeSlice, abuildSlice, snapL, mapO, treeL, AVal.tree, AVal.flatT, isFlat, ares, isFz, afroz, afrozB, lookupA, lookupH, tops, if_true, if_false, reduceCtorEq, forall_const, ite_true, ite_false, implies_true, walkS, tabS, Tryz.results25, eq_true hltI, wk, hlt, lr, ct]
    refine callK (dC) (by first | exact .inl rfl | exact .inr rfl) ?_
    simp (config := { maxSteps := 1000000 }) +decide only [NoH, Old, OldL, nilQ, nilA, asgn, nz, RechL, ReY, isNew, stepO, XPost, postN, XOk, updN, updU, isEff, avalue, aeff, ASt.eval, ASt.put, ASt.set, ASt.new, Nat.reduceDiv, Nat.reduceAdd, Int.reduceToNat, absV, absC, scalar, alen, acap, conc, flats, live, blkOf, aload, rd, part?, afieldAddr, afield, aindexAddr, cellsOf, afill, places, abuild, optI, asliceV, asliceS, szOk, srcCells, aappend, acopy, astore, amakeSlice, abuildSlice, snapL, mapO, treeL, AVal.tree, AVal.flatT, isFlat, ares, isFz, afroz, afrozB, lookupA, lookupH, tops, if_true, if_false, reduceCtorEq, forall_const, ite_true, ite_false, implies_true, walkS, tabS, Tryz.results25]
    refine callK (d1) (by first | exact .inl rfl | exact .inr rfl) ?_
    simp (config := { maxSteps := 1000000 }) +decide only [NoH, Old, OldL, nilQ, nilA, asgn, nz, RechL, ReY, isNew, stepO, XPost, postN, XOk, updN, updU, isEff, avalue, aeff, ASt.eval, ASt.put, ASt.set, ASt.new, Nat.reduceDiv, Nat.reduceAdd, Int.reduceToNat, absV, absC, scalar, alen, acap, conc, flats, live, blkOf, aload, rd, part?, afieldAddr, afield, aindexAddr, cellsOf, afill, places, abuild, optI, asliceV, asliceS, szOk, srcCells, aappend, acopy, astore, amakeSlice, abuildSlice, snapL, mapO, treeL, AVal.tree, AVal.flatT, isFlat, ares, isFz, afroz, afrozB, lookupA, lookupH, tops, if_true, if_false, reduceCtorEq, forall_const, ite_true, ite_false, implies_true, walkS, tabS, Tryz.results25]
    refine callK (d2) (by first | exact .inl rfl | exact .inr rfl) ?_
    simp (config := { maxSteps := 1000000 }) +decide only [NoH, Old, OldL, nilQ, nilA, asgn, nz, RechL, ReY, isNew, stepO, XPost, postN, XOk, updN, updU, isEff, avalue, aeff, ASt.eval, ASt.put, ASt.set, ASt.new, Nat.reduceDiv, Nat.reduceAdd, Int.reduceToNat, absV, absC, scalar, alen, acap, conc, flats, live, blkOf, aload, rd, part?, afieldAddr, afield, aindexAddr, cellsOf, afill, places, abuild, optI, asliceV, asliceS, szOk, srcCells, aappend, acopy, astore, amakeSlice, abuildSlice, snapL, mapO, treeL, AVal.tree, AVal.flatT, isFlat, ares, isFz, afroz, afrozB, lookupA, lookupH, tops, if_true, if_false, reduceCtorEq, forall_const, ite_true, ite_false, implies_true, walkS, tabS, Tryz.results25, wk, th, tc, th2, tc2, lr1, lr2, sn, s1, s2, h8]
    refine ⟨⟨(k + 1, G, G + 1, G + 2), by show k + 1 ≤ m + 1; omega⟩, ?_, by show m + 1 - (k + 1) < m + 1 - k; omega⟩
    refine weak_mk rfl (by first | exact Nat.le_refl _ | (simp only [mk_gen]; omega)) ?_ ?_ <;> simp +decide only [w_lookup_nil, w_lookup_cons, ch_ch, ch_lit, lit_ch, wkT, wkH, wkB, WVL, WV_refl', Int.natCast_zero, Int.natCast_add, Int.natCast_one, Nat.sub_self, Nat.sub_zero, List.replicate_zero, List.take_zero, List.nil_append, List.append_nil, fillC_zero, Nat.reduceDiv, Nat.reduceAdd, upd_bk, bk_at, getB_zero, getB_succ, modB_zero, modB_succ, rows_lit, repB_zero, repB_succ, List.length_cons, List.length_nil, upd_upd_same, upd_apply, mk_tmp, mk_heap, mk_gen, lookupA, lookupH, List.getD_cons_zero, List.getD_cons_succ, init_two, tops, Bool.true_and, and_self, and_true, true_and, true_or, if_true, if_false, ite_true, ite_false, reduceCtorEq, reduceIte, mk1, e2]
  · have ek : k = m := by omega
    have ct : (mapC AVal.t (rowsT hs cl n m ++ [[]]))[k]? = some (.t []) := by
      rw [ek]
      simp [mapC, rowsT_len]
    have dC := den_Cut [] [32] (by simp)
    rw [cut_nil] at dC
    have mk0 : min k m = m := by omega
    have mk1 : min (k + 1) m = m := by omega
    have e0 : min k m * n = m * n := by rw [mk0]
    rw [e0] at th tc th2 tc2 h8 ⊢
    have h82 : m * n * 8 ≤ 140737488355328 := by omega
    simp (config := { maxSteps := 1000000 }) +decide only [NoH, Old, OldL, nilQ, nilA, asgn, nz, RechL, ReY, isNew, stepO, XPost, postN, XOk, updN, updU, isEff, avalue, aeff, ASt.eval, ASt.put, ASt.set, ASt.new, Nat.reduceDiv, Nat.reduceAdd, Int.reduceToNat, absV, absC, scalar, alen, acap, conc, flats, live, blkOf, aload, rd, part?, afieldAddr, afield, aindexAddr, cellsOf, afill, places, abuild, optI, asliceV, asliceS, szOk, srcCells, aappend, acopy, astore, amakeSlice, abuildSlice, snapL, mapO, treeL, AVal.tree, AVal.flatT, isFlat, ares, isFz, afroz, afrozB, lookupA, lookupH, tops, if_true, if_false, reduceCtorEq, forall_const, ite_true, ite_false, implies_true, walkS, tabS, Tryz.results25, eq_true hltI, wk, hlt, lr, ct]
    refine callK (dC) (by first | exact .inl rfl | exact .inr rfl) ?_
    simp (config := { maxSteps := 1000000 }) +decide only [NoH, Old, OldL, nilQ, nilA, asgn, nz, RechL, ReY, isNew, stepO, XPost, postN, XOk, updN, updU, isEff, avalue, aeff, ASt.eval, ASt.put, ASt.set, ASt.new, Nat.reduceDiv, Nat.reduceAdd, Int.reduceToNat, absV, absC, scalar, alen, acap, conc, flats, live, blkOf, aload, rd, part?, afieldAddr, afield, aindexAddr, cellsOf, afill, places, abuild, optI, asliceV, asliceS, szOk, srcCells, aappend, acopy, astore, amakeSlice, abuildSlice, snapL, mapO, treeL, AVal.tree, AVal.flatT, isFlat, ares, isFz, afroz, afrozB, lookupA, lookupH, tops, if_true, if_false, reduceCtorEq, forall_const, ite_true, ite_false, implies_true, walkS, tabS, Tryz.results25]
    refine callK (den_ReadListNil) (by first | exact .inl rfl | exact .inr rfl) ?_
    simp (config := { maxSteps := 1000000 }) +decide only [NoH, Old, OldL, nilQ, nilA, asgn, nz, RechL, ReY, isNew, stepO, XPost, postN, XOk, updN, updU, isEff, avalue, aeff, ASt.eval, ASt.put, ASt.set, ASt.new, Nat.reduceDiv, Nat.reduceAdd, Int.reduceToNat, absV, absC, scalar, alen, acap, conc, flats, live, blkOf, aload, rd, part?, afieldAddr, afield, aindexAddr, cellsOf, afill, places, abuild, optI, asliceV, asliceS, szOk, srcCells, aappend, acopy, astore, amakeSlice, abuildSlice, snapL, mapO, treeL, AVal.tree, AVal.flatT, isFlat, ares, isFz, afroz, afrozB, lookupA, lookupH, tops, if_true, if_false, reduceCtorEq, forall_const, ite_true, ite_false, implies_true, walkS, tabS, Tryz.results25]
    refine callK (den_ReadListNil) (by first | exact .inl rfl | exact .inr rfl) ?_
    simp (config := { maxSteps := 1000000 }) +decide only [NoH, Old, OldL, nilQ, nilA, asgn, nz, RechL, ReY, isNew, stepO, XPost, postN, XOk, updN, updU, isEff, avalue, aeff, ASt.eval, ASt.put, ASt.set, ASt.new, Nat.reduceDiv, Nat.reduceAdd, Int.reduceToNat, absV, absC, scalar, alen, acap, conc, flats, live, blkOf, aload, rd, part?, afieldAddr, afield, aindexAddr, cellsOf, afill, places, abuild, optI, asliceV, asliceS, szOk, srcCells, aappend, acopy, astore, amakeSlice, abuildSlice, snapL, mapO, treeL, AVal.tree, AVal.flatT, isFlat, ares, isFz, afroz, afrozB, lookupA, lookupH, tops, if_true, if_false, reduceCtorEq, forall_const, ite_true, ite_false, implies_true, walkS, tabS, Tryz.results25, wk, th, tc, th2, tc2, sn, h82, Nat.add_zero, mapC_nil]
    refine ⟨⟨(k + 1, G, G + 1, G + 2), by show k + 1 ≤ m + 1; omega⟩, ?_, by show m + 1 - (k + 1) < m + 1 - k; omega⟩
    refine weak_mk rfl (by first | exact Nat.le_refl _ | (simp only [mk_gen]; omega)) ?_ ?_ <;> simp +decide only [w_lookup_nil, w_lookup_cons, ch_ch, ch_lit, lit_ch, wkT, wkH, wkB, WVL, WV_refl', Int.natCast_zero, Int.natCast_add, Int.natCast_one, Nat.sub_self, Nat.sub_zero, List.replicate_zero, List.take_zero, List.nil_append, List.append_nil, fillC_zero, Nat.reduceDiv, Nat.reduceAdd, upd_bk, bk_at, getB_zero, getB_succ, modB_zero, modB_succ, rows_lit, repB_zero, repB_succ, List.length_cons, List.length_nil, upd_upd_same, upd_apply, mk_tmp, mk_heap, mk_gen, lookupA, lookupH, List.getD_cons_zero, List.getD_cons_succ, init_two, tops, Bool.true_and, and_self, and_true, true_and, true_or, if_true, if_false, ite_true, ite_false, reduceCtorEq, reduceIte, mk1]
end Go.Proofs.YtiaemddmkmfijaaGreatDoor
