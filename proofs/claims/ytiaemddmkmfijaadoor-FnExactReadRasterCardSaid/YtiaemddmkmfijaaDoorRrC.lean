/-
  OWN WORK: rasters read: the result is memory of its own.
-/
import Derived.Test.YtiaemddmkmfijaaDoorSvA
import Derived.Test.YtiaemddmkmfijaaDoorRaM
import Derived.Test.YtiaemddmkmfijaaDoorRrB
namespace Go.Proofs.YtiaemddmkmfijaaDoor
open Go Go.Own Go.Proofs
set_option maxHeartbeats 4000000
set_option maxRecDepth 20000
set_option linter.unusedSimpArgs false
set_option linter.unusedVariables false
theorem denx_ReadRaster (s : Int) (n m : Nat) (hs cl : List Int) (hT : OkRas s n m hs cl) : DenX Tryd.prog 21 [.v (.t (gridK wRas s n m hs cl n m))] [.v (.t (gridK wRas s n m hs cl n m))] (.tup [rasX s n m hs cl, xb true]) := by
  have hz := hT.1
  have hl0 : hs.length = n * m := by have := hT.2.1; have e : ((n * m : Nat) : Int) = (n : Int) * m := Int.natCast_mul n m; omega
  have hc0 : cl.length = n * m := by have := hT.2.2.1; omega
  have ih := (ras_in12 hT).1
  have ic := (ras_in12 hT).2
  have s12 : In12 s := ⟨by have := hz.1; omega, by have := hz.1; omega⟩
  have n12 : In12 n := ⟨by omega, by have := hz.2.1; omega⟩
  have m12 : In12 m := ⟨by omega, by have := hz.2.2.1; omega⟩
  have n24 : n ≤ 24 := by have := hz.2.1; omega
  have m24 : m ≤ 24 := by have := hz.2.2.1; omega
  have n1 : 1 ≤ n := by have := hz.2.1; omega
  have gl := gridK_len (word := wRas) (by decide) s12 n12 m12 hl0 hc0 ih ic n24 m (Nat.le_refl _)
  have dL := den_Lines (word := wRas) (by decide) s n m hs cl n m m24 (by omega)
  have dH := den_Split (headF wRas s n m) 32 (by unfold headF; simp) (headF_32 (by decide) s n m) (by
    show (headT wRas s n m).length < _
    rw [headT_eq]
    have i1 := itoa_len12 s12
    have i2 := itoa_len12 n12
    have i3 := itoa_len12 m12
    simp [wRas]
    omega)
  have dT := den_RasterText s n m hs cl hT
  have gne : ¬ gridK wRas s n m hs cl n m = [] := by
    rw [gridK_lines]
    unfold linesT
    rw [List.cons_append, Lib.join_cons, headT_eq]
    simp [wRas]
  generalize gridK wRas s n m hs cl n m = T at *
  have h0 : (mapC AVal.t (linesT wRas s n m hs cl n m))[0]? = some (.t (Lib.join (headF wRas s n m) [32])) := rfl
  have lF : (headF wRas s n m).length = 4 := rfl
  have e4 : List.take (4 - 1) (List.drop 1 (headF wRas s n m)) = threeT s n m := rfl
  have e5 : (4 - 1 : Nat) = 3 := rfl
  refine denx_of_awpG (ghs [] []) Tryd.func21 rfl (by kernel_rfl) (Nat.le_of_ble_eq_true rfl) (by simp +decide only [w_embA_nil, w_embA_cons, w_emb_v, w_emb_ol, w_emb_op, w_emb_agg, w_emb_tup, w_embL_nil, w_embL_cons, embL_i, List.map_cons, List.map_nil, List.nil_append, List.append_nil, List.cons_append, List.nodup_cons, List.nodup_nil, List.mem_cons, List.mem_nil_iff, List.not_mem_nil, ch_ch, ch_lit, lit_ch, Nat.reduceAdd]) mixed (by kernel_rfl) fun hl => ?_
  simp only [xlensL, xlens, lensL, lens, lensL_i, lensL_mapC, xlensL_i, maxI, and_true, true_and] at hl
  rw [Tryd.ntmps21]
  refine ex_start ?_
  simp (config := { maxSteps := 1000000 }) +decide only [NoH, Old, OldL, nilQ, nilA, asgn, nz, RechL, ReY, isNew, stepO, XPost, postN, XOk, updN, updU, isEff, avalue, aeff, ASt.eval, ASt.put, ASt.set, ASt.new, Nat.reduceDiv, Nat.reduceAdd, Int.reduceToNat, absV, absC, scalar, alen, acap, conc, flats, live, blkOf, aload, rd, part?, afieldAddr, afield, aindexAddr, cellsOf, afill, places, abuild, optI, asliceV, asliceS, szOk, srcCells, aappend, acopy, astore, amakeSlice, abuildSlice, snapL, mapO, treeL, AVal.tree, AVal.flatT, isFlat, ares, isFz, afroz, afrozB, lookupA, lookupH, tops, if_true, if_false, reduceCtorEq, forall_const, ite_true, ite_false, implies_true, walkS, tabS, Tryd.results21]
  refine callK (dL) (by first | exact .inl rfl | exact .inr rfl) ?_
  have ll := linesT_len wRas s n m hs cl n m
  have p0 : 0 < m + 2 := by omega
  have p0I : (0 : Int) < ((m + 2 : Nat) : Int) := by omega
  simp (config := { maxSteps := 1000000 }) +decide only [NoH, Old, OldL, nilQ, nilA, asgn, nz, RechL, ReY, isNew, stepO, XPost, postN, XOk, updN, updU, isEff, avalue, aeff, ASt.eval, ASt.put, ASt.set, ASt.new, Nat.reduceDiv, Nat.reduceAdd, Int.reduceToNat, absV, absC, scalar, alen, acap, conc, flats, live, blkOf, aload, rd, part?, afieldAddr, afield, aindexAddr, cellsOf, afill, places, abuild, optI, asliceV, asliceS, szOk, srcCells, aappend, acopy, astore, amakeSlice, abuildSlice, snapL, mapO, treeL, AVal.tree, AVal.flatT, isFlat, ares, isFz, afroz, afrozB, lookupA, lookupH, tops, if_true, if_false, reduceCtorEq, forall_const, ite_true, ite_false, implies_true, walkS, tabS, Tryd.results21, h0, ll, p0, p0I]
  refine callK (dH) (by first | exact .inl rfl | exact .inr rfl) ?_
  simp (config := { maxSteps := 1000000 }) +decide only [NoH, Old, OldL, nilQ, nilA, asgn, nz, RechL, ReY, isNew, stepO, XPost, postN, XOk, updN, updU, isEff, avalue, aeff, ASt.eval, ASt.put, ASt.set, ASt.new, Nat.reduceDiv, Nat.reduceAdd, Int.reduceToNat, absV, absC, scalar, alen, acap, conc, flats, live, blkOf, aload, rd, part?, afieldAddr, afield, aindexAddr, cellsOf, afill, places, abuild, optI, asliceV, asliceS, szOk, srcCells, aappend, acopy, astore, amakeSlice, abuildSlice, snapL, mapO, treeL, AVal.tree, AVal.flatT, isFlat, ares, isFz, afroz, afrozB, lookupA, lookupH, tops, if_true, if_false, reduceCtorEq, forall_const, ite_true, ite_false, implies_true, walkS, tabS, Tryd.results21, lF, e4, e5]
  refine ex_loop (fun k : {k : Nat // k ≤ 3} => mkG (ghs [] []) [(0, .t T), (2, .ptr 2 1 0), (4, .lst (mapC AVal.t (linesT wRas s n m hs cl n m)) (m + 2)), (6, .ptr 6 2 0), (30, .lst (mapC AVal.t (threeT s n m)) 3), (31, .i (3 : Nat)), (32, .i k.1)] [(2, ⟨1, 5, [.i 0, .i 0, .i 0, .nl, .nl]⟩), (6, ⟨2, 3, mapC AVal.i (threeK s n m k.1)⟩)] 3 96) (fun k => 3 - k.1) ⟨0, Nat.zero_le _⟩ ?_ ?_
  · have e0 : mapC AVal.i (threeK s n m 0) = [.i 0, .i 0, .i 0] := rfl
    refine weak_mk rfl (by first | exact Nat.le_refl _ | (simp only [mk_gen]; omega)) ?_ ?_ <;> simp +decide only [w_lookup_nil, w_lookup_cons, ch_ch, ch_lit, lit_ch, wkT, wkH, wkB, WVL, WV_refl', Int.natCast_zero, Int.natCast_add, Int.natCast_one, Nat.sub_self, Nat.sub_zero, List.replicate_zero, List.take_zero, List.nil_append, List.append_nil, fillC_zero, Nat.reduceDiv, Nat.reduceAdd, upd_bk, bk_at, getB_zero, getB_succ, modB_zero, modB_succ, rows_lit, repB_zero, repB_succ, List.length_cons, List.length_nil, upd_upd_same, upd_apply, mk_tmp, mk_heap, mk_gen, lookupA, lookupH, List.getD_cons_zero, List.getD_cons_succ, init_two, tops, Bool.true_and, and_self, and_true, true_and, true_or, if_true, if_false, ite_true, ite_false, reduceCtorEq, reduceIte, e0]
  rintro ⟨k, k1⟩
  have k1' : k ≤ 3 := k1
  by_cases hlt : k < 3
  · have hltI : (k : Int) < ((3 : Nat) : Int) := by omega
    have hlt3 : (k : Int) < 3 := by omega
    have wk : IntKind.i64.wrap ((k : Int) + 1) = ((k + 1 : Nat) : Int) := wrap64 (by omega) (by omega)
    have ct := threeT_at s n m hlt
    have lk := threeK_len s n m k1'
    have hlf : k < (threeT s n m).length := hlt
    have bv : In18 ((threeL s n m).getD k 0) := by
      rcases three_cases hlt with rfl | rfl | rfl
      · exact in12 s12
      · exact in12 n12
      · exact in12 m12
    have st := threeK_set s n m hlt _ rfl
    generalize (threeL s n m).getD k 0 = v at *
    simp (config := { maxSteps := 1000000 }) +decide only [NoH, Old, OldL, nilQ, nilA, asgn, nz, RechL, ReY, isNew, stepO, XPost, postN, XOk, updN, updU, isEff, avalue, aeff, ASt.eval, ASt.put, ASt.set, ASt.new, Nat.reduceDiv, Nat.reduceAdd, Int.reduceToNat, absV, absC, scalar, alen, acap, conc, flats, live, blkOf, aload, rd, part?, afieldAddr, afield, aindexAddr, cellsOf, afill, places, abuild, optI, asliceV, asliceS, szOk, srcCells, aappend, acopy, astore, amakeSlice, abuildSlice, snapL, mapO, treeL, AVal.tree, AVal.flatT, isFlat, ares, isFz, afroz, afrozB, lookupA, lookupH, tops, if_true, if_false, reduceCtorEq, forall_const, ite_true, ite_false, implies_true, walkS, tabS, Tryd.results21, eq_true hltI, hlt, hlf, ct]
    refine callK (den_ReadDecimal v bv) (by first | exact .inl rfl | exact .inr rfl) ?_
    simp (config := { maxSteps := 1000000 }) +decide only [NoH, Old, OldL, nilQ, nilA, asgn, nz, RechL, ReY, isNew, stepO, XPost, postN, XOk, updN, updU, isEff, avalue, aeff, ASt.eval, ASt.put, ASt.set, ASt.new, Nat.reduceDiv, Nat.reduceAdd, Int.reduceToNat, absV, absC, scalar, alen, acap, conc, flats, live, blkOf, aload, rd, part?, afieldAddr, afield, aindexAddr, cellsOf, afill, places, abuild, optI, asliceV, asliceS, szOk, srcCells, aappend, acopy, astore, amakeSlice, abuildSlice, snapL, mapO, treeL, AVal.tree, AVal.flatT, isFlat, ares, isFz, afroz, afrozB, lookupA, lookupH, tops, if_true, if_false, reduceCtorEq, forall_const, ite_true, ite_false, implies_true, walkS, tabS, Tryd.results21, hlt, hltI, hlt3, lk, st, wk]
    refine ⟨⟨k + 1, hlt⟩, ?_, by show 3 - (k + 1) < 3 - k; omega⟩
    refine weak_mk rfl (by first | exact Nat.le_refl _ | (simp only [mk_gen]; omega)) ?_ ?_ <;> simp +decide only [w_lookup_nil, w_lookup_cons, ch_ch, ch_lit, lit_ch, wkT, wkH, wkB, WVL, WV_refl', Int.natCast_zero, Int.natCast_add, Int.natCast_one, Nat.sub_self, Nat.sub_zero, List.replicate_zero, List.take_zero, List.nil_append, List.append_nil, fillC_zero, Nat.reduceDiv, Nat.reduceAdd, upd_bk, bk_at, getB_zero, getB_succ, modB_zero, modB_succ, rows_lit, repB_zero, repB_succ, List.length_cons, List.length_nil, upd_upd_same, upd_apply, mk_tmp, mk_heap, mk_gen, lookupA, lookupH, List.getD_cons_zero, List.getD_cons_succ, init_two, tops, Bool.true_and, and_self, and_true, true_and, true_or, if_true, if_false, ite_true, ite_false, reduceCtorEq, reduceIte]
  have ek : k = 3 := by omega
  subst ek
  have hltI : ¬ ((3 : Nat) : Int) < ((3 : Nat) : Int) := by omega
  have cf : mapC AVal.i (threeK s n m 3) = [.i s, .i n, .i m] := rfl
  have e7 : m + 2 - 1 = m + 1 := by omega
  have p1 : 1 ≤ m + 2 := by omega
  have lr : (rowsT hs cl n m ++ [[]]).length = m + 1 := by simp [rowsT_len]
  have e6 : List.take (m + 1) (List.drop 1 (linesT wRas s n m hs cl n m)) = rowsT hs cl n m ++ [[]] := by
    show List.take (m + 1) (rowsT hs cl n m ++ [[]]) = _
    exact List.take_of_length_le (by omega)
  have p2 : m + 1 < m + 2 := by omega
  simp (config := { maxSteps := 1000000 }) +decide only [NoH, Old, OldL, nilQ, nilA, asgn, nz, RechL, ReY, isNew, stepO, XPost, postN, XOk, updN, updU, isEff, avalue, aeff, ASt.eval, ASt.put, ASt.set, ASt.new, Nat.reduceDiv, Nat.reduceAdd, Int.reduceToNat, absV, absC, scalar, alen, acap, conc, flats, live, blkOf, aload, rd, part?, afieldAddr, afield, aindexAddr, cellsOf, afill, places, abuild, optI, asliceV, asliceS, szOk, srcCells, aappend, acopy, astore, amakeSlice, abuildSlice, snapL, mapO, treeL, AVal.tree, AVal.flatT, isFlat, ares, isFz, afroz, afrozB, lookupA, lookupH, tops, if_true, if_false, reduceCtorEq, forall_const, ite_true, ite_false, implies_true, walkS, tabS, Tryd.results21, eq_false hltI, cf, ll, e7, p1, p2, e6]
  refine ex_loop (fun p : {p : Nat × Nat × Nat × Nat // p.1 ≤ m + 1} => mkG (ghs [] []) [(0, .t T), (2, .ptr 2 1 0), (9, .ptr 9 3 0), (53, .lst (mapC AVal.t (rowsT hs cl n m ++ [[]])) (m + 1)), (54, .i (m + 1 : Nat)), (55, .i p.1.1)] [(2, ⟨1, 5, [.i 0, .i 0, .i 0, .nl, .nl]⟩), (9, ⟨3, 5, [.i s, .i n, .i m, .own 78 p.1.2.1 0 (min p.1.1 m * n), .own 82 p.1.2.2.1 0 (min p.1.1 m * n)]⟩), (78, ⟨p.1.2.1, 1, mapC AVal.i (hs.take (min p.1.1 m * n))⟩), (82, ⟨p.1.2.2.1, 1, mapC AVal.i (cl.take (min p.1.1 m * n))⟩)] p.1.2.2.2 96) (fun p => m + 1 - p.1.1) ⟨(0, 4, 5, 6), Nat.zero_le _⟩ ?_ ?_
  · have e0 : min 0 m * n = 0 := by simp
    refine weak_mk rfl (by first | exact Nat.le_refl _ | (simp only [mk_gen]; omega)) ?_ ?_ <;> simp +decide only [w_lookup_nil, w_lookup_cons, ch_ch, ch_lit, lit_ch, wkT, wkH, wkB, WVL, WV_refl', Int.natCast_zero, Int.natCast_add, Int.natCast_one, Nat.sub_self, Nat.sub_zero, List.replicate_zero, List.take_zero, List.nil_append, List.append_nil, fillC_zero, Nat.reduceDiv, Nat.reduceAdd, upd_bk, bk_at, getB_zero, getB_succ, modB_zero, modB_succ, rows_lit, repB_zero, repB_succ, List.length_cons, List.length_nil, upd_upd_same, upd_apply, mk_tmp, mk_heap, mk_gen, lookupA, lookupH, List.getD_cons_zero, List.getD_cons_succ, init_two, tops, Bool.true_and, and_self, and_true, true_and, true_or, if_true, if_false, ite_true, ite_false, reduceCtorEq, reduceIte, e0, mapC_nil, List.take_zero]
    exact .inr ⟨WV_nl rfl rfl rfl rfl, WV_nl rfl rfl rfl rfl⟩
  rintro ⟨⟨k, g1, g2, G⟩, k1⟩
  have k1' : k ≤ m + 1 := k1
  by_cases hlt : k < m + 1
  case neg =>
    have ek : k = m + 1 := by omega
    subst ek
    have hltI2 : ¬ ((m + 1 : Nat) : Int) < ((m + 1 : Nat) : Int) := by omega
    have em : min (m + 1) m * n = n * m := by rw [Nat.min_eq_right (by omega), Nat.mul_comm]
    have t1 : hs.take (n * m) = hs := List.take_of_length_le (by omega)
    have t2 : cl.take (n * m) = cl := List.take_of_length_le (by omega)
    rw [em, t1, t2]
    have dT' : Den Tryd.prog 10 [.agg [.i s, .i n, .i m, .lst (mapC AVal.i hs) (n * m), .lst (mapC AVal.i cl) (n * m)]] (.t T) := by
      have e : AVal.agg [.i s, .i n, .i m, .lst (mapC AVal.i hs) (n * m), .lst (mapC AVal.i cl) (n * m)] = rasV s n m hs cl := by
        show _ = AVal.agg [.i s, .i n, .i m, .lst (mapC AVal.i hs) hs.length, .lst (mapC AVal.i cl) cl.length]
        rw [hl0, hc0]
      rw [e]
      exact dT
    have lh : n * m ≤ hs.length := by omega
    have lc : n * m ≤ cl.length := by omega
    simp (config := { maxSteps := 1000000 }) +decide only [NoH, Old, OldL, nilQ, nilA, asgn, nz, RechL, ReY, isNew, stepO, XPost, postN, XOk, updN, updU, isEff, avalue, aeff, ASt.eval, ASt.put, ASt.set, ASt.new, Nat.reduceDiv, Nat.reduceAdd, Int.reduceToNat, absV, absC, scalar, alen, acap, conc, flats, live, blkOf, aload, rd, part?, afieldAddr, afield, aindexAddr, cellsOf, afill, places, abuild, optI, asliceV, asliceS, szOk, srcCells, aappend, acopy, astore, amakeSlice, abuildSlice, snapL, mapO, treeL, AVal.tree, AVal.flatT, isFlat, ares, isFz, afroz, afrozB, lookupA, lookupH, tops, if_true, if_false, reduceCtorEq, forall_const, ite_true, ite_false, implies_true, walkS, tabS, Tryd.results21, eq_false hltI2, lr, sem_eqlT, eq_false gne, lh, lc, t1, t2, treeL_i]
    refine callK dT' (.inr rfl) ?_
    simp (config := { maxSteps := 1000000 }) +decide only [NoH, Old, OldL, nilQ, nilA, asgn, nz, RechL, ReY, isNew, stepO, XPost, postN, XOk, updN, updU, isEff, avalue, aeff, ASt.eval, ASt.put, ASt.set, ASt.new, Nat.reduceDiv, Nat.reduceAdd, Int.reduceToNat, absV, absC, scalar, alen, acap, conc, flats, live, blkOf, aload, rd, part?, afieldAddr, afield, aindexAddr, cellsOf, afill, places, abuild, optI, asliceV, asliceS, szOk, srcCells, aappend, acopy, astore, amakeSlice, abuildSlice, snapL, mapO, treeL, AVal.tree, AVal.flatT, isFlat, ares, isFz, afroz, afrozB, lookupA, lookupH, tops, if_true, if_false, reduceCtorEq, forall_const, ite_true, ite_false, implies_true, walkS, tabS, Tryd.results21, sem_neqT, t1, t2, hl0, hc0]
  have hltI : (k : Int) < ((m + 1 : Nat) : Int) := by omega
  have wk : IntKind.i64.wrap ((k : Int) + 1) = ((k + 1 : Nat) : Int) := wrap64 (by omega) (by omega)
  have kl : k < (rowsT hs cl n m ++ [[]]).length := by omega
  have km : min k m * n ≤ m * n := Nat.mul_le_mul_right n (Nat.min_le_right _ _)
  have nm : n * m ≤ 24 * 24 := Nat.mul_le_mul n24 m24
  rw [Nat.mul_comm m n] at km
  have th : (hs.take (min k m * n)).length = min k m * n := by rw [List.length_take]; omega
  have tc : (cl.take (min k m * n)).length = min k m * n := by rw [List.length_take]; omega
  have th2 : (hs.take (min k m * n)).take (min k m * n) = hs.take (min k m * n) := List.take_of_length_le (by omega)
  have tc2 : (cl.take (min k m * n)).take (min k m * n) = cl.take (min k m * n) := List.take_of_length_le (by omega)
  have sn : ∀ A B : List Int, mapC AVal.i A ++ mapC AVal.i B = mapC AVal.i (A ++ B) := fun A B => by simp [mapC]
  have h8 : (min k m * n + n) * 8 ≤ 140737488355328 := by omega
  by_cases hm : k < m
  · have ct : (mapC AVal.t (rowsT hs cl n m ++ [[]]))[k]? = some (.t (rowT hs cl n k)) := by
      have := rowsT_at (A := hs) (B := cl) (n := n) hm
      simp only [mapC, List.getElem?_map]
      rw [List.getElem?_append_left (by rw [rowsT_len]; exact hm), this]
      rfl
    have ⟨r1, r2⟩ := rowT_len hl0 hc0 hm ih ic n24
    have dC := den_Cut (rowT hs cl n k) [32] (by unfold rowT; simp; omega)
    rw [cut_row] at dC
    have d1 := den_ReadListN (rowL_len hl0 hm) n1 (by omega) (rowL_in ih)
    have d2 := den_ReadListN (rowL_len hc0 hm) n1 (by omega) (rowL_in ic)
    have mk0 : min k m = k := Nat.min_eq_left (by omega)
    have mk1 : min (k + 1) m = k + 1 := Nat.min_eq_left (by omega)
    have s1 := rowL_snoc (A := hs) (n := n) (y := k)
    have s2 := rowL_snoc (A := cl) (n := n) (y := k)
    have lr1 := rowL_len hl0 hm
    have lr2 := rowL_len hc0 hm
    have e2 : (k + 1) * n = k * n + n := Nat.succ_mul k n
    have jx : k ≤ m + 1 := by omega
    have e0 : min k m * n = k * n := by rw [mk0]
    rw [e0] at th tc th2 tc2 h8 ⊢
    simp (config := { maxSteps := 1000000 }) +decide only [NoH, Old, OldL, nilQ, nilA, asgn, nz, RechL, ReY, isNew, stepO, XPost, postN, XOk, updN, updU, isEff, avalue, aeff, ASt.eval, ASt.put, ASt.set, ASt.new, Nat.reduceDiv, Nat.reduceAdd, Int.reduceToNat, absV, absC, scalar, alen, acap, conc, flats, live, blkOf, aload, rd, part?, afieldAddr, afield, aindexAddr, cellsOf, afill, places, abuild, optI, asliceV, asliceS, szOk, srcCells, aappend, acopy, astore, amakeSlice, abuildSlice, snapL, mapO, treeL, AVal.tree, AVal.flatT, isFlat, ares, isFz, afroz, afrozB, lookupA, lookupH, tops, if_true, if_false, reduceCtorEq, forall_const, ite_true, ite_false, implies_true, walkS, tabS, Tryd.results21, eq_true hltI, wk, hlt, lr, ct]
    refine callK (dC) (by first | exact .inl rfl | exact .inr rfl) ?_
    simp (config := { maxSteps := 1000000 }) +decide only [NoH, Old, OldL, nilQ, nilA, asgn, nz, RechL, ReY, isNew, stepO, XPost, postN, XOk, updN, updU, isEff, avalue, aeff, ASt.eval, ASt.put, ASt.set, ASt.new, Nat.reduceDiv, Nat.reduceAdd, Int.reduceToNat, absV, absC, scalar, alen, acap, conc, flats, live, blkOf, aload, rd, part?, afieldAddr, afield, aindexAddr, cellsOf, afill, places, abuild, optI, asliceV, asliceS, szOk, srcCells, aappend, acopy, astore, amakeSlice, abuildSlice, snapL, mapO, treeL, AVal.tree, AVal.flatT, isFlat, ares, isFz, afroz, afrozB, lookupA, lookupH, tops, if_true, if_false, reduceCtorEq, forall_const, ite_true, ite_false, implies_true, walkS, tabS, Tryd.results21]
    refine callK (d1) (by first | exact .inl rfl | exact .inr rfl) ?_
    simp (config := { maxSteps := 1000000 }) +decide only [NoH, Old, OldL, nilQ, nilA, asgn, nz, RechL, ReY, isNew, stepO, XPost, postN, XOk, updN, updU, isEff, avalue, aeff, ASt.eval, ASt.put, ASt.set, ASt.new, Nat.reduceDiv, Nat.reduceAdd, Int.reduceToNat, absV, absC, scalar, alen, acap, conc, flats, live, blkOf, aload, rd, part?, afieldAddr, afield, aindexAddr, cellsOf, afill, places, abuild, optI, asliceV, asliceS, szOk, srcCells, aappend, acopy, astore, amakeSlice, abuildSlice, snapL, mapO, treeL, AVal.tree, AVal.flatT, isFlat, ares, isFz, afroz, afrozB, lookupA, lookupH, tops, if_true, if_false, reduceCtorEq, forall_const, ite_true, ite_false, implies_true, walkS, tabS, Tryd.results21]
    refine callK (d2) (by first | exact .inl rfl | exact .inr rfl) ?_
    simp (config := { maxSteps := 1000000 }) +decide only [NoH, Old, OldL, nilQ, nilA, asgn, nz, RechL, ReY, isNew, stepO, XPost, postN, XOk, updN, updU, isEff, avalue, aeff, ASt.eval, ASt.put, ASt.set, ASt.new, Nat.reduceDiv, Nat.reduceAdd, Int.reduceToNat, absV, absC, scalar, alen, acap, conc, flats, live, blkOf, aload, rd, part?, afieldAddr, afield, aindexAddr, cellsOf, afill, places, abuild, optI, asliceV, asliceS, szOk, srcCells, aappend, acopy, astore, amakeSlice, abuildSlice, snapL, mapO, treeL, AVal.tree, AVal.flatT, isFlat, ares, isFz, afroz, afrozB, lookupA, lookupH, tops, if_true, if_false, reduceCtorEq, forall_const, ite_true, ite_false, implies_true, walkS, tabS, Tryd.results21, wk, th, tc, th2, tc2, lr1, lr2, sn, s1, s2, h8]
    refine ⟨⟨(k + 1, G, G + 1, G + 2), by show k + 1 ≤ m + 1; omega⟩, ?_, by show m + 1 - (k + 1) < m + 1 - k; omega⟩
    refine weak_mk rfl (by first | exact Nat.le_refl _ | (simp only [mk_gen]; omega)) ?_ ?_ <;> simp +decide only [w_lookup_nil, w_lookup_cons, ch_ch, ch_lit, lit_ch, wkT, wkH, wkB, WVL, WV_refl', Int.natCast_zero, Int.natCast_add, Int.natCast_one, Nat.sub_self, Nat.sub_zero, List.replicate_zero, List.take_zero, List.nil_append, List.append_nil, fillC_zero, Nat.reduceDiv, Nat.reduceAdd, upd_bk, bk_at, getB_zero, getB_succ, modB_zero, modB_succ, rows_lit, repB_zero, repB_succ, List.length_cons, List.length_nil, upd_upd_same, upd_apply, mk_tmp, mk_heap, mk_gen, lookupA, lookupH, List.getD_cons_zero, List.getD_cons_succ, init_two, tops, Bool.true_and, and_self, and_true, true_and, true_or, if_true, if_false, ite_true, ite_false, reduceCtorEq, reduceIte, mk1, e2]
  · have ek : k = m := by omega
    have ct : (mapC AVal.t (rowsT hs cl n m ++ [[]]))[k]? = some (.t []) := by
      rw [ek]
      simp [mapC, rowsT_len]
    have dC := den_Cut [] [32] (by simp)
    rw [cut_nil] at dC
    have mk0 : min k m = m := by omega
    have mk1 : min (k + 1) m = m := by omega
    have e0 : min k m * n = m * n := by rw [mk0]
    rw [e0] at th tc th2 tc2 h8 ⊢
    have h82 : m * n * 8 ≤ 140737488355328 := by omega
    simp (config := { maxSteps := 1000000 }) +decide only [NoH, Old, OldL, nilQ, nilA, asgn, nz, RechL, ReY, isNew, stepO, XPost, postN, XOk, updN, updU, isEff, avalue, aeff, ASt.eval, ASt.put, ASt.set, ASt.new, Nat.reduceDiv, Nat.reduceAdd, Int.reduceToNat, absV, absC, scalar, alen, acap, conc, flats, live, blkOf, aload, rd, part?, afieldAddr, afield, aindexAddr, cellsOf, afill, places, abuild, optI, asliceV, asliceS, szOk, srcCells, aappend, acopy, astore, amakeSlice, abuildSlice, snapL, mapO, treeL, AVal.tree, AVal.flatT, isFlat, ares, isFz, afroz, afrozB, lookupA, lookupH, tops, if_true, if_false, reduceCtorEq, forall_const, ite_true, ite_false, implies_true, walkS, tabS, Tryd.results21, eq_true hltI, wk, hlt, lr, ct]
    refine callK (dC) (by first | exact .inl rfl | exact .inr rfl) ?_
    simp (config := { maxSteps := 1000000 }) +decide only [NoH, Old, OldL, nilQ, nilA, asgn, nz, RechL, ReY, isNew, stepO, XPost, postN, XOk, updN, updU, isEff, avalue, aeff, ASt.eval, ASt.put, ASt.set, ASt.new, Nat.reduceDiv, Nat.reduceAdd, Int.reduceToNat, absV, absC, scalar, alen, acap, conc, flats, live, blkOf, aload, rd, part?, afieldAddr, afield, aindexAddr, cellsOf, afill, places, abuild, optI, asliceV, asliceS, szOk, srcCells, aappend, acopy, astore, amakeSlice, abuildSlice, snapL, mapO, treeL, AVal.tree, AVal.flatT, isFlat, ares, isFz, afroz, afrozB, lookupA, lookupH, tops, if_true, if_false, reduceCtorEq, forall_const, ite_true, ite_false, implies_true, walkS, tabS, Tryd.results21]
    refine callK (den_ReadListNil) (by first | exact .inl rfl | exact .inr rfl) ?_
    simp (config := { maxSteps := 1000000 }) +decide only [NoH, Old, OldL, nilQ, nilA, asgn, nz, RechL, ReY, isNew, stepO, XPost, postN, XOk, updN, updU, isEff, avalue, aeff, ASt.eval, ASt.put, ASt.set, ASt.new, Nat.reduceDiv, Nat.reduceAdd, Int.reduceToNat, absV, absC, scalar, alen, acap, conc, flats, live, blkOf, aload, rd, part?, afieldAddr, afield, aindexAddr, cellsOf, afill, places, abuild, optI, asliceV, asliceS, szOk, srcCells, aappend, acopy, astore, amakeSlice, abuildSlice, snapL, mapO, treeL, AVal.tree, AVal.flatT, isFlat, ares, isFz, afroz, afrozB, lookupA, lookupH, tops, if_true, if_false, reduceCtorEq, forall_const, ite_true, ite_false, implies_true, walkS, tabS, Tryd.results21]
    refine callK (den_ReadListNil) (by first | exact .inl rfl | exact .inr rfl) ?_
    simp (config := { maxSteps := 1000000 }) +decide only [NoH, Old, OldL, nilQ, nilA, asgn, nz, RechL, ReY, isNew, stepO, XPost, postN, XOk, updN, updU, isEff, avalue, aeff, ASt.eval, ASt.put, ASt.set, ASt.new, Nat.reduceDiv, Nat.reduceAdd, Int.reduceToNat, absV, absC, scalar, alen, acap, conc, flats, live, blkOf, aload, rd, part?, afieldAddr, afield, aindexAddr, cellsOf, afill, places, abuild, optI, asliceV, asliceS, szOk, srcCells, aappend, acopy, astore, amakeSlice, abuildSlice, snapL, mapO, treeL, AVal.tree, AVal.flatT, isFlat, ares, isFz, afroz, afrozB, lookupA, lookupH, tops, if_true, if_false, reduceCtorEq, forall_const, ite_true, ite_false, implies_true, walkS, tabS, Tryd.results21, wk, th, tc, th2, tc2, sn, h82, Nat.add_zero, mapC_nil]
    refine ⟨⟨(k + 1, G, G + 1, G + 2), by show k + 1 ≤ m + 1; omega⟩, ?_, by show m + 1 - (k + 1) < m + 1 - k; omega⟩
    refine weak_mk rfl (by first | exact Nat.le_refl _ | (simp only [mk_gen]; omega)) ?_ ?_ <;> simp +decide only [w_lookup_nil, w_lookup_cons, ch_ch, ch_lit, lit_ch, wkT, wkH, wkB, WVL, WV_refl', Int.natCast_zero, Int.natCast_add, Int.natCast_one, Nat.sub_self, Nat.sub_zero, List.replicate_zero, List.take_zero, List.nil_append, List.append_nil, fillC_zero, Nat.reduceDiv, Nat.reduceAdd, upd_bk, bk_at, getB_zero, getB_succ, modB_zero, modB_succ, rows_lit, repB_zero, repB_succ, List.length_cons, List.length_nil, upd_upd_same, upd_apply, mk_tmp, mk_heap, mk_gen, lookupA, lookupH, List.getD_cons_zero, List.getD_cons_succ, init_two, tops, Bool.true_and, and_self, and_true, true_and, true_or, if_true, if_false, ite_true, ite_false, reduceCtorEq, reduceIte, mk1]
/-- the numbers of a first line -/
def numK (N : List Int) (k : Nat) : List Int := N.take k ++ List.replicate (3 - k) 0
theorem numK_set {a b c : Int} {k : Nat} (h : k < 3) (v : Int) (hv : [a, b, c].getD k 0 = v) : lay (mapC AVal.i (numK [a, b, c] k)) k [.i v] = mapC AVal.i (numK [a, b, c] (k + 1)) := by
  subst hv
  rcases three_cases h with rfl | rfl | rfl <;> rfl
theorem numK_len {a b c : Int} {k : Nat} (h : k ≤ 3) : (mapC AVal.i (numK [a, b, c] k)).length = 3 := by
  simp [mapC, numK]
  omega
/-- no raster has the text -/
def NoRas (S : List UInt8) : Prop := ∀ (s : Int) (n m : Nat) (sv lv : List Int), OkRas s n m sv lv → S ≠ gridK wRas s n m sv lv n m
theorem ex_Text (s w h : Int) (sv lv : List Int) (S : List UInt8) (hn : NoRas S) : ∃ T, (S = [] ∨ T ≠ S) ∧ Den Tryd.prog 10 [rasV s w h sv lv] (.t T) := by
  by_cases h1 : OkRas s w h sv lv
  case neg =>
    refine ⟨[], ?_, den_RasterTextNo s w h sv lv h1⟩
    by_cases c : S = []
    · exact .inl c
    · exact .inr fun k => c k.symm
  obtain ⟨n, rfl⟩ : ∃ n : Nat, w = n := ⟨w.toNat, by have := h1.1.2.1; omega⟩
  obtain ⟨m, rfl⟩ : ∃ m : Nat, h = m := ⟨h.toNat, by have := h1.1.2.2.1; omega⟩
  exact ⟨_, .inr fun k => hn s n m sv lv h1 k.symm, den_RasterText s n m sv lv h1⟩
/-- what is read of the first k lines -/
def accA (h : List UInt8 → List Int) (TL : List (List UInt8)) (k : Nat) : List Int := (TL.take k).flatMap h
theorem accA_succ {h : List UInt8 → List Int} {TL : List (List UInt8)} {k : Nat} (hk : k < TL.length) : accA h TL k ++ h TL[k] = accA h TL (k + 1) := by
  unfold accA
  rw [List.take_succ_eq_append_getElem hk, List.flatMap_append]
  simp only [List.flatMap_cons, List.flatMap_nil, List.append_nil]
theorem accA_len {h : List UInt8 → List Int} (hh : ∀ T, (h T).length ≤ 65) (TL : List (List UInt8)) : ∀ k, (accA h TL k).length ≤ 65 * k
  | 0 => by simp [accA]
  | k + 1 => by
    have ih := accA_len hh TL k
    by_cases hk : k < TL.length
    · rw [← accA_succ hk, List.length_append]
      have := hh TL[k]
      omega
    · have e : accA h TL (k + 1) = accA h TL k := by
        unfold accA
        rw [List.take_of_length_le (by omega), List.take_of_length_le (by omega)]
      rw [e]
      omega
theorem cut_len (a p : List UInt8) : (Lib.cut a p).1.length ≤ a.length ∧ (Lib.cut a p).2.1.length ≤ a.length := by
  unfold Lib.cut
  split
  · simp
    omega
  · simp
theorem denx_ReadRasterNo (S : List UInt8) (hS : S.length ≤ 1048576) (hn : NoRas S) : DenX Tryd.prog 21 [.v (.t S)] [.v (.t S)] (.tup [rasX 0 0 0 [] [], xb false]) := by
  obtain ⟨f, g, hfg⟩ := dec_fun
  obtain ⟨lf, lg, lf65, hlf⟩ := list_fun
  obtain ⟨s1, s2, s3⟩ := splitK_in (sep := [10]) (min 26 (S.length + 1) - 1) S
  have hs := den_SplitN S 10 26 (by omega) (by omega) (by omega)
  generalize Lib.splitK [10] 0 (min 26 (S.length + 1) - 1) S = L at *
  obtain ⟨x0, TL, rfl⟩ : ∃ a l, L = a :: l := by
    cases L with
    | nil => simp at s2
    | cons a l => exact ⟨a, l, rfl⟩
  have lTL : TL.length ≤ 25 := by simp at s1; omega
  have b0 := s3 x0 (by simp)
  obtain ⟨q1, q2, q3⟩ := splitK_in (sep := [32]) (Lib.count x0 [32]) x0
  have hw := den_SplitG x0 32 (by omega)
  generalize Lib.splitK [32] 0 (Lib.count x0 [32]) x0 = W at *
  have h0 : (mapC AVal.t (x0 :: TL))[0]? = some (.t x0) := rfl
  have ll : (x0 :: TL).length = TL.length + 1 := rfl
  have p0 : 0 < TL.length + 1 := by omega
  have p0I : (0 : Int) < ((TL.length + 1 : Nat) : Int) := by omega
  by_cases c4 : W.length = 4
  case neg =>
    have c4I : ¬ (W.length : Int) = 4 := by omega
    refine denx_of_awpG (ghs [] []) Tryd.func21 rfl (by kernel_rfl) (Nat.le_of_ble_eq_true rfl) (by simp +decide only [w_embA_nil, w_embA_cons, w_emb_v, w_emb_ol, w_emb_op, w_emb_agg, w_emb_tup, w_embL_nil, w_embL_cons, embL_i, List.map_cons, List.map_nil, List.nil_append, List.append_nil, List.cons_append, List.nodup_cons, List.nodup_nil, List.mem_cons, List.mem_nil_iff, List.not_mem_nil, ch_ch, ch_lit, lit_ch, Nat.reduceAdd]) mixed (by kernel_rfl) fun hl => ?_
    simp only [xlensL, xlens, lensL, lens, lensL_i, lensL_mapC, xlensL_i, maxI, and_true, true_and] at hl
    rw [Tryd.ntmps21]
    refine ex_start ?_
    simp (config := { maxSteps := 1000000 }) +decide only [NoH, Old, OldL, nilQ, nilA, asgn, nz, RechL, ReY, isNew, stepO, XPost, postN, XOk, updN, updU, isEff, avalue, aeff, ASt.eval, ASt.put, ASt.set, ASt.new, Nat.reduceDiv, Nat.reduceAdd, Int.reduceToNat, absV, absC, scalar, alen, acap, conc, flats, live, blkOf, aload, rd, part?, afieldAddr, afield, aindexAddr, cellsOf, afill, places, abuild, optI, asliceV, asliceS, szOk, srcCells, aappend, acopy, astore, amakeSlice, abuildSlice, snapL, mapO, treeL, AVal.tree, AVal.flatT, isFlat, ares, isFz, afroz, afrozB, lookupA, lookupH, tops, if_true, if_false, reduceCtorEq, forall_const, ite_true, ite_false, implies_true, walkS, tabS, Tryd.results21]
    refine callK (hs) (by first | exact .inl rfl | exact .inr rfl) ?_
    simp (config := { maxSteps := 1000000 }) +decide only [NoH, Old, OldL, nilQ, nilA, asgn, nz, RechL, ReY, isNew, stepO, XPost, postN, XOk, updN, updU, isEff, avalue, aeff, ASt.eval, ASt.put, ASt.set, ASt.new, Nat.reduceDiv, Nat.reduceAdd, Int.reduceToNat, absV, absC, scalar, alen, acap, conc, flats, live, blkOf, aload, rd, part?, afieldAddr, afield, aindexAddr, cellsOf, afill, places, abuild, optI, asliceV, asliceS, szOk, srcCells, aappend, acopy, astore, amakeSlice, abuildSlice, snapL, mapO, treeL, AVal.tree, AVal.flatT, isFlat, ares, isFz, afroz, afrozB, lookupA, lookupH, tops, if_true, if_false, reduceCtorEq, forall_const, ite_true, ite_false, implies_true, walkS, tabS, Tryd.results21, h0, ll, p0, p0I]
    refine callK (hw) (by first | exact .inl rfl | exact .inr rfl) ?_
    simp (config := { maxSteps := 1000000 }) +decide only [NoH, Old, OldL, nilQ, nilA, asgn, nz, RechL, ReY, isNew, stepO, XPost, postN, XOk, updN, updU, isEff, avalue, aeff, ASt.eval, ASt.put, ASt.set, ASt.new, Nat.reduceDiv, Nat.reduceAdd, Int.reduceToNat, absV, absC, scalar, alen, acap, conc, flats, live, blkOf, aload, rd, part?, afieldAddr, afield, aindexAddr, cellsOf, afill, places, abuild, optI, asliceV, asliceS, szOk, srcCells, aappend, acopy, astore, amakeSlice, abuildSlice, snapL, mapO, treeL, AVal.tree, AVal.flatT, isFlat, ares, isFz, afroz, afrozB, lookupA, lookupH, tops, if_true, if_false, reduceCtorEq, forall_const, ite_true, ite_false, implies_true, walkS, tabS, Tryd.results21, eq_false c4I, rasX, mapC_nil]
  obtain ⟨w0, w1, w2, w3, rfl⟩ : ∃ a b c d, W = [a, b, c, d] := by
    match W, c4 with
    | [a, b, c, d], _ => exact ⟨a, b, c, d, rfl⟩
  have lW : ([w0, w1, w2, w3] : List (List UInt8)).length = 4 := rfl
  have e4 : List.take (4 - 1) (List.drop 1 [w0, w1, w2, w3]) = [w1, w2, w3] := rfl
  have e5 : (4 - 1 : Nat) = 3 := rfl
  have dN : ∀ k, k < 3 → Den Tryd.prog 62 [.t ([w1, w2, w3].getD k [])] (.tup [.i ([f w1, f w2, f w3].getD k 0), .b ([g w1, g w2, g w3].getD k false)]) := fun k hk => by
    have l1 := q3 w1 (by simp)
    have l2 := q3 w2 (by simp)
    have l3 := q3 w3 (by simp)
    rcases three_cases hk with rfl | rfl | rfl
    · exact hfg w1 (by omega)
    · exact hfg w2 (by omega)
    · exact hfg w3 (by omega)
  have ct : ∀ k, k < 3 → (mapC AVal.t [w1, w2, w3])[k]? = some (.t ([w1, w2, w3].getD k [])) := fun k hk => by
    rcases three_cases hk with rfl | rfl | rfl <;> rfl
  refine denx_of_awpG (ghs [] []) Tryd.func21 rfl (by kernel_rfl) (Nat.le_of_ble_eq_true rfl) (by simp +decide only [w_embA_nil, w_embA_cons, w_emb_v, w_emb_ol, w_emb_op, w_emb_agg, w_emb_tup, w_embL_nil, w_embL_cons, embL_i, List.map_cons, List.map_nil, List.nil_append, List.append_nil, List.cons_append, List.nodup_cons, List.nodup_nil, List.mem_cons, List.mem_nil_iff, List.not_mem_nil, ch_ch, ch_lit, lit_ch, Nat.reduceAdd]) mixed (by kernel_rfl) fun hl => ?_
  simp only [xlensL, xlens, lensL, lens, lensL_i, lensL_mapC, xlensL_i, maxI, and_true, true_and] at hl
  rw [Tryd.ntmps21]
  refine ex_start ?_
  simp (config := { maxSteps := 1000000 }) +decide only [NoH, Old, OldL, nilQ, nilA, asgn, nz, RechL, ReY, isNew, stepO, XPost, postN, XOk, updN, updU, isEff, avalue, aeff, ASt.eval, ASt.put, ASt.set, ASt.new, Nat.reduceDiv, Nat.reduceAdd, Int.reduceToNat, absV, absC, scalar, alen, acap, conc, flats, live, blkOf, aload, rd, part?, afieldAddr, afield, aindexAddr, cellsOf, afill, places, abuild, optI, asliceV, asliceS, szOk, srcCells, aappend, acopy, astore, amakeSlice, abuildSlice, snapL, mapO, treeL, AVal.tree, AVal.flatT, isFlat, ares, isFz, afroz, afrozB, lookupA, lookupH, tops, if_true, if_false, reduceCtorEq, forall_const, ite_true, ite_false, implies_true, walkS, tabS, Tryd.results21]
  refine callK (hs) (by first | exact .inl rfl | exact .inr rfl) ?_
  simp (config := { maxSteps := 1000000 }) +decide only [NoH, Old, OldL, nilQ, nilA, asgn, nz, RechL, ReY, isNew, stepO, XPost, postN, XOk, updN, updU, isEff, avalue, aeff, ASt.eval, ASt.put, ASt.set, ASt.new, Nat.reduceDiv, Nat.reduceAdd, Int.reduceToNat, absV, absC, scalar, alen, acap, conc, flats, live, blkOf, aload, rd, part?, afieldAddr, afield, aindexAddr, cellsOf, afill, places, abuild, optI, asliceV, asliceS, szOk, srcCells, aappend, acopy, astore, amakeSlice, abuildSlice, snapL, mapO, treeL, AVal.tree, AVal.flatT, isFlat, ares, isFz, afroz, afrozB, lookupA, lookupH, tops, if_true, if_false, reduceCtorEq, forall_const, ite_true, ite_false, implies_true, walkS, tabS, Tryd.results21, h0, ll, p0, p0I]
  refine callK (hw) (by first | exact .inl rfl | exact .inr rfl) ?_
  simp (config := { maxSteps := 1000000 }) +decide only [NoH, Old, OldL, nilQ, nilA, asgn, nz, RechL, ReY, isNew, stepO, XPost, postN, XOk, updN, updU, isEff, avalue, aeff, ASt.eval, ASt.put, ASt.set, ASt.new, Nat.reduceDiv, Nat.reduceAdd, Int.reduceToNat, absV, absC, scalar, alen, acap, conc, flats, live, blkOf, aload, rd, part?, afieldAddr, afield, aindexAddr, cellsOf, afill, places, abuild, optI, asliceV, asliceS, szOk, srcCells, aappend, acopy, astore, amakeSlice, abuildSlice, snapL, mapO, treeL, AVal.tree, AVal.flatT, isFlat, ares, isFz, afroz, afrozB, lookupA, lookupH, tops, if_true, if_false, reduceCtorEq, forall_const, ite_true, ite_false, implies_true, walkS, tabS, Tryd.results21, lW, e4, e5]
  refine ex_loop (fun k : {k : Nat // k ≤ 3} => mkG (ghs [] []) [(0, .t S), (2, .ptr 2 1 0), (4, strs (x0 :: TL)), (6, .ptr 6 2 0), (30, .lst (mapC AVal.t [w1, w2, w3]) 3), (31, .i (3 : Nat)), (32, .i k.1)] [(2, ⟨1, 5, [.i 0, .i 0, .i 0, .nl, .nl]⟩), (6, ⟨2, 3, mapC AVal.i (numK [f w1, f w2, f w3] k.1)⟩)] 3 96) (fun k => 3 - k.1) ⟨0, Nat.zero_le _⟩ ?_ ?_
  · have e0 : mapC AVal.i (numK [f w1, f w2, f w3] 0) = [.i 0, .i 0, .i 0] := rfl
    refine weak_mk rfl (by first | exact Nat.le_refl _ | (simp only [mk_gen]; omega)) ?_ ?_ <;> simp +decide only [w_lookup_nil, w_lookup_cons, ch_ch, ch_lit, lit_ch, wkT, wkH, wkB, WVL, WV_refl', Int.natCast_zero, Int.natCast_add, Int.natCast_one, Nat.sub_self, Nat.sub_zero, List.replicate_zero, List.take_zero, List.nil_append, List.append_nil, fillC_zero, Nat.reduceDiv, Nat.reduceAdd, upd_bk, bk_at, getB_zero, getB_succ, modB_zero, modB_succ, rows_lit, repB_zero, repB_succ, List.length_cons, List.length_nil, upd_upd_same, upd_apply, mk_tmp, mk_heap, mk_gen, lookupA, lookupH, List.getD_cons_zero, List.getD_cons_succ, init_two, tops, Bool.true_and, and_self, and_true, true_and, true_or, if_true, if_false, ite_true, ite_false, reduceCtorEq, reduceIte, e0, ll]
  rintro ⟨k, k1⟩
  have k1' : k ≤ 3 := k1
  by_cases hlt : k < 3
  · have hltI : (k : Int) < ((3 : Nat) : Int) := by omega
    have hlt3 : (k : Int) < 3 := by omega
    have wk : IntKind.i64.wrap ((k : Int) + 1) = ((k + 1 : Nat) : Int) := wrap64 (by omega) (by omega)
    have ctk := ct k hlt
    have lk := numK_len (a := f w1) (b := f w2) (c := f w3) k1'
    have hlf2 : k < ([w1, w2, w3] : List (List UInt8)).length := hlt
    have st := numK_set (a := f w1) (b := f w2) (c := f w3) hlt _ rfl
    have dk := dN k hlt
    generalize ([f w1, f w2, f w3] : List Int).getD k 0 = v at st dk
    generalize ([g w1, g w2, g w3] : List Bool).getD k false = bb at dk
    simp (config := { maxSteps := 1000000 }) +decide only [NoH, Old, OldL, nilQ, nilA, asgn, nz, RechL, ReY, isNew, stepO, XPost, postN, XOk, updN, updU, isEff, avalue, aeff, ASt.eval, ASt.put, ASt.set, ASt.new, Nat.reduceDiv, Nat.reduceAdd, Int.reduceToNat, absV, absC, scalar, alen, acap, conc, flats, live, blkOf, aload, rd, part?, afieldAddr, afield, aindexAddr, cellsOf, afill, places, abuild, optI, asliceV, asliceS, szOk, srcCells, aappend, acopy, astore, amakeSlice, abuildSlice, snapL, mapO, treeL, AVal.tree, AVal.flatT, isFlat, ares, isFz, afroz, afrozB, lookupA, lookupH, tops, if_true, if_false, reduceCtorEq, forall_const, ite_true, ite_false, implies_true, walkS, tabS, Tryd.results21, eq_true hltI, hlt, hlf2, ctk]
    refine callK (dk) (by first | exact .inl rfl | exact .inr rfl) ?_
    simp (config := { maxSteps := 1000000 }) +decide only [NoH, Old, OldL, nilQ, nilA, asgn, nz, RechL, ReY, isNew, stepO, XPost, postN, XOk, updN, updU, isEff, avalue, aeff, ASt.eval, ASt.put, ASt.set, ASt.new, Nat.reduceDiv, Nat.reduceAdd, Int.reduceToNat, absV, absC, scalar, alen, acap, conc, flats, live, blkOf, aload, rd, part?, afieldAddr, afield, aindexAddr, cellsOf, afill, places, abuild, optI, asliceV, asliceS, szOk, srcCells, aappend, acopy, astore, amakeSlice, abuildSlice, snapL, mapO, treeL, AVal.tree, AVal.flatT, isFlat, ares, isFz, afroz, afrozB, lookupA, lookupH, tops, if_true, if_false, reduceCtorEq, forall_const, ite_true, ite_false, implies_true, walkS, tabS, Tryd.results21, hlt, hltI, hlt3, lk, st, wk]
    refine ⟨⟨k + 1, hlt⟩, ?_, by show 3 - (k + 1) < 3 - k; omega⟩
    refine weak_mk rfl (by first | exact Nat.le_refl _ | (simp only [mk_gen]; omega)) ?_ ?_ <;> simp +decide only [w_lookup_nil, w_lookup_cons, ch_ch, ch_lit, lit_ch, wkT, wkH, wkB, WVL, WV_refl', Int.natCast_zero, Int.natCast_add, Int.natCast_one, Nat.sub_self, Nat.sub_zero, List.replicate_zero, List.take_zero, List.nil_append, List.append_nil, fillC_zero, Nat.reduceDiv, Nat.reduceAdd, upd_bk, bk_at, getB_zero, getB_succ, modB_zero, modB_succ, rows_lit, repB_zero, repB_succ, List.length_cons, List.length_nil, upd_upd_same, upd_apply, mk_tmp, mk_heap, mk_gen, lookupA, lookupH, List.getD_cons_zero, List.getD_cons_succ, init_two, tops, Bool.true_and, and_self, and_true, true_and, true_or, if_true, if_false, ite_true, ite_false, reduceCtorEq, reduceIte]
  have ek : k = 3 := by omega
  subst ek
  have hltI : ¬ ((3 : Nat) : Int) < ((3 : Nat) : Int) := by omega
  have cf : mapC AVal.i (numK [f w1, f w2, f w3] 3) = [.i (f w1), .i (f w2), .i (f w3)] := rfl
  have e7 : TL.length + 1 - 1 = TL.length := by omega
  have p1 : 1 ≤ TL.length + 1 := by omega
  have e6 : List.take TL.length (List.drop 1 (x0 :: TL)) = TL := by
    show List.take TL.length TL = _
    exact List.take_of_length_le (Nat.le_refl _)
  have p2 : TL.length < TL.length + 1 := by omega
  simp (config := { maxSteps := 1000000 }) +decide only [NoH, Old, OldL, nilQ, nilA, asgn, nz, RechL, ReY, isNew, stepO, XPost, postN, XOk, updN, updU, isEff, avalue, aeff, ASt.eval, ASt.put, ASt.set, ASt.new, Nat.reduceDiv, Nat.reduceAdd, Int.reduceToNat, absV, absC, scalar, alen, acap, conc, flats, live, blkOf, aload, rd, part?, afieldAddr, afield, aindexAddr, cellsOf, afill, places, abuild, optI, asliceV, asliceS, szOk, srcCells, aappend, acopy, astore, amakeSlice, abuildSlice, snapL, mapO, treeL, AVal.tree, AVal.flatT, isFlat, ares, isFz, afroz, afrozB, lookupA, lookupH, tops, if_true, if_false, reduceCtorEq, forall_const, ite_true, ite_false, implies_true, walkS, tabS, Tryd.results21, eq_false hltI, cf, ll, e7, p1, p2, e6]
  refine ex_loop (fun p : {p : Nat × Nat × Nat × Nat // p.1 ≤ TL.length} => mkG (ghs [] []) [(0, .t S), (2, .ptr 2 1 0), (9, .ptr 9 3 0), (53, .lst (mapC AVal.t TL) TL.length), (54, .i (TL.length : Nat)), (55, .i p.1.1)] [(2, ⟨1, 5, [.i 0, .i 0, .i 0, .nl, .nl]⟩), (9, ⟨3, 5, [.i (f w1), .i (f w2), .i (f w3), .own 78 p.1.2.1 0 (accA (fun x => lf (Lib.cut x [32]).1) TL p.1.1).length, .own 82 p.1.2.2.1 0 (accA (fun x => lf (Lib.cut x [32]).2.1) TL p.1.1).length]⟩), (78, ⟨p.1.2.1, 1, mapC AVal.i (accA (fun x => lf (Lib.cut x [32]).1) TL p.1.1)⟩), (82, ⟨p.1.2.2.1, 1, mapC AVal.i (accA (fun x => lf (Lib.cut x [32]).2.1) TL p.1.1)⟩)] p.1.2.2.2 96) (fun p => TL.length - p.1.1) ⟨(0, 4, 5, 6), Nat.zero_le _⟩ ?_ ?_
  · have ea : ∀ h : List UInt8 → List Int, accA h TL 0 = [] := fun h => by simp [accA]
    refine weak_mk rfl (by first | exact Nat.le_refl _ | (simp only [mk_gen]; omega)) ?_ ?_ <;> simp +decide only [w_lookup_nil, w_lookup_cons, ch_ch, ch_lit, lit_ch, wkT, wkH, wkB, WVL, WV_refl', Int.natCast_zero, Int.natCast_add, Int.natCast_one, Nat.sub_self, Nat.sub_zero, List.replicate_zero, List.take_zero, List.nil_append, List.append_nil, fillC_zero, Nat.reduceDiv, Nat.reduceAdd, upd_bk, bk_at, getB_zero, getB_succ, modB_zero, modB_succ, rows_lit, repB_zero, repB_succ, List.length_cons, List.length_nil, upd_upd_same, upd_apply, mk_tmp, mk_heap, mk_gen, lookupA, lookupH, List.getD_cons_zero, List.getD_cons_succ, init_two, tops, Bool.true_and, and_self, and_true, true_and, true_or, if_true, if_false, ite_true, ite_false, reduceCtorEq, reduceIte, ea, mapC_nil, List.take_zero]
    exact .inr ⟨WV_nl rfl rfl rfl rfl, WV_nl rfl rfl rfl rfl⟩
  rintro ⟨⟨k, g1, g2, G⟩, k1⟩
  have k1' : k ≤ TL.length := k1
  have a1 := accA_len (h := fun x => lf (Lib.cut x [32]).1) (fun x => lf65 _) TL k
  have a2 := accA_len (h := fun x => lf (Lib.cut x [32]).2.1) (fun x => lf65 _) TL k
  have sn : ∀ A B : List Int, mapC AVal.i A ++ mapC AVal.i B = mapC AVal.i (A ++ B) := fun A B => by simp [mapC]
  by_cases hlt : k < TL.length
  · have hltI : (k : Int) < (TL.length : Int) := by omega
    have wk : IntKind.i64.wrap ((k : Int) + 1) = ((k + 1 : Nat) : Int) := wrap64 (by omega) (by omega)
    have ct : (mapC AVal.t TL)[k]? = some (.t TL[k]) := by simp [mapC, hlt]
    have n1 := accA_succ (h := fun x => lf (Lib.cut x [32]).1) hlt
    have n2 := accA_succ (h := fun x => lf (Lib.cut x [32]).2.1) hlt
    have bl := s3 TL[k] (by simp)
    obtain ⟨c1, c2⟩ := cut_len TL[k] [32]
    have dC := den_Cut TL[k] [32] (by omega)
    have d1 := hlf (Lib.cut TL[k] [32]).1 (by omega)
    have d2 := hlf (Lib.cut TL[k] [32]).2.1 (by omega)
    have f1 := lf65 (Lib.cut TL[k] [32]).1
    have f2 := lf65 (Lib.cut TL[k] [32]).2.1
    generalize accA (fun x => lf (Lib.cut x [32]).1) TL k = A at *
    generalize accA (fun x => lf (Lib.cut x [32]).2.1) TL k = B at *
    have n1' : A ++ lf (Lib.cut TL[k] [32]).1 = accA (fun x => lf (Lib.cut x [32]).1) TL (k + 1) := n1
    have n2' : B ++ lf (Lib.cut TL[k] [32]).2.1 = accA (fun x => lf (Lib.cut x [32]).2.1) TL (k + 1) := n2
    clear n1 n2
    generalize (Lib.cut TL[k] [32]).1 = u1 at *
    generalize (Lib.cut TL[k] [32]).2.1 = u2 at *
    generalize (Lib.cut TL[k] [32]).2.2 = u3 at *
    generalize lf u1 = L1 at *
    generalize lf u2 = L2 at *
    generalize lg u1 = b1 at *
    generalize lg u2 = b2 at *
    have m1 : (A.length + L1.length) * 8 ≤ 140737488355328 := by omega
    have m2 : (B.length + L2.length) * 8 ≤ 140737488355328 := by omega
    have l1 : A.length + L1.length = (A ++ L1).length := by simp
    have l2 : B.length + L2.length = (B ++ L2).length := by simp
    rw [n1'] at l1
    rw [n2'] at l2
    simp (config := { maxSteps := 1000000 }) +decide only [NoH, Old, OldL, nilQ, nilA, asgn, nz, RechL, ReY, isNew, stepO, XPost, postN, XOk, updN, updU, isEff, avalue, aeff, ASt.eval, ASt.put, ASt.set, ASt.new, Nat.reduceDiv, Nat.reduceAdd, Int.reduceToNat, absV, absC, scalar, alen, acap, conc, flats, live, blkOf, aload, rd, part?, afieldAddr, afield, aindexAddr, cellsOf, afill, places, abuild, optI, asliceV, asliceS, szOk, srcCells, aappend, acopy, astore, amakeSlice, abuildSlice, snapL, mapO, treeL, AVal.tree, AVal.flatT, isFlat, ares, isFz, afroz, afrozB, lookupA, lookupH, tops, if_true, if_false, reduceCtorEq, forall_const, ite_true, ite_false, implies_true, walkS, tabS, Tryd.results21, eq_true hltI, wk, hlt, ct]
    refine callK (dC) (by first | exact .inl rfl | exact .inr rfl) ?_
    simp (config := { maxSteps := 1000000 }) +decide only [NoH, Old, OldL, nilQ, nilA, asgn, nz, RechL, ReY, isNew, stepO, XPost, postN, XOk, updN, updU, isEff, avalue, aeff, ASt.eval, ASt.put, ASt.set, ASt.new, Nat.reduceDiv, Nat.reduceAdd, Int.reduceToNat, absV, absC, scalar, alen, acap, conc, flats, live, blkOf, aload, rd, part?, afieldAddr, afield, aindexAddr, cellsOf, afill, places, abuild, optI, asliceV, asliceS, szOk, srcCells, aappend, acopy, astore, amakeSlice, abuildSlice, snapL, mapO, treeL, AVal.tree, AVal.flatT, isFlat, ares, isFz, afroz, afrozB, lookupA, lookupH, tops, if_true, if_false, reduceCtorEq, forall_const, ite_true, ite_false, implies_true, walkS, tabS, Tryd.results21]
    refine callK (d1) (by first | exact .inl rfl | exact .inr rfl) ?_
    simp (config := { maxSteps := 1000000 }) +decide only [NoH, Old, OldL, nilQ, nilA, asgn, nz, RechL, ReY, isNew, stepO, XPost, postN, XOk, updN, updU, isEff, avalue, aeff, ASt.eval, ASt.put, ASt.set, ASt.new, Nat.reduceDiv, Nat.reduceAdd, Int.reduceToNat, absV, absC, scalar, alen, acap, conc, flats, live, blkOf, aload, rd, part?, afieldAddr, afield, aindexAddr, cellsOf, afill, places, abuild, optI, asliceV, asliceS, szOk, srcCells, aappend, acopy, astore, amakeSlice, abuildSlice, snapL, mapO, treeL, AVal.tree, AVal.flatT, isFlat, ares, isFz, afroz, afrozB, lookupA, lookupH, tops, if_true, if_false, reduceCtorEq, forall_const, ite_true, ite_false, implies_true, walkS, tabS, Tryd.results21]
    refine callK (d2) (by first | exact .inl rfl | exact .inr rfl) ?_
    simp (config := { maxSteps := 1000000 }) +decide only [NoH, Old, OldL, nilQ, nilA, asgn, nz, RechL, ReY, isNew, stepO, XPost, postN, XOk, updN, updU, isEff, avalue, aeff, ASt.eval, ASt.put, ASt.set, ASt.new, Nat.reduceDiv, Nat.reduceAdd, Int.reduceToNat, absV, absC, scalar, alen, acap, conc, flats, live, blkOf, aload, rd, part?, afieldAddr, afield, aindexAddr, cellsOf, afill, places, abuild, optI, asliceV, asliceS, szOk, srcCells, aappend, acopy, astore, amakeSlice, abuildSlice, snapL, mapO, treeL, AVal.tree, AVal.flatT, isFlat, ares, isFz, afroz, afrozB, lookupA, lookupH, tops, if_true, if_false, reduceCtorEq, forall_const, ite_true, ite_false, implies_true, walkS, tabS, Tryd.results21, wk, List.take_length, sn, n1', n2', m1, m2]
    refine ⟨⟨(k + 1, G, G + 1, G + 2), by show k + 1 ≤ TL.length; omega⟩, ?_, by show TL.length - (k + 1) < TL.length - k; omega⟩
    refine weak_mk rfl (by first | exact Nat.le_refl _ | (simp only [mk_gen]; omega)) ?_ ?_ <;> simp +decide only [w_lookup_nil, w_lookup_cons, ch_ch, ch_lit, lit_ch, wkT, wkH, wkB, WVL, WV_refl', Int.natCast_zero, Int.natCast_add, Int.natCast_one, Nat.sub_self, Nat.sub_zero, List.replicate_zero, List.take_zero, List.nil_append, List.append_nil, fillC_zero, Nat.reduceDiv, Nat.reduceAdd, upd_bk, bk_at, getB_zero, getB_succ, modB_zero, modB_succ, rows_lit, repB_zero, repB_succ, List.length_cons, List.length_nil, upd_upd_same, upd_apply, mk_tmp, mk_heap, mk_gen, lookupA, lookupH, List.getD_cons_zero, List.getD_cons_succ, init_two, tops, Bool.true_and, and_self, and_true, true_and, true_or, if_true, if_false, ite_true, ite_false, reduceCtorEq, reduceIte, l1, l2]
  have ek : k = TL.length := by omega
  subst ek
  have hltI2 : ¬ (TL.length : Int) < (TL.length : Int) := by omega
  generalize accA (fun x => lf (Lib.cut x [32]).1) TL TL.length = A at *
  generalize accA (fun x => lf (Lib.cut x [32]).2.1) TL TL.length = B at *
  obtain ⟨T, hT, dT⟩ := ex_Text (f w1) (f w2) (f w3) A B S hn
  have dT' : Den Tryd.prog 10 [.agg [.i (f w1), .i (f w2), .i (f w3), .lst (mapC AVal.i A) A.length, .lst (mapC AVal.i B) B.length]] (.t T) := dT
  by_cases h0 : S = []
  · simp (config := { maxSteps := 1000000 }) +decide only [NoH, Old, OldL, nilQ, nilA, asgn, nz, RechL, ReY, isNew, stepO, XPost, postN, XOk, updN, updU, isEff, avalue, aeff, ASt.eval, ASt.put, ASt.set, ASt.new, Nat.reduceDiv, Nat.reduceAdd, Int.reduceToNat, absV, absC, scalar, alen, acap, conc, flats, live, blkOf, aload, rd, part?, afieldAddr, afield, aindexAddr, cellsOf, afill, places, abuild, optI, asliceV, asliceS, szOk, srcCells, aappend, acopy, astore, amakeSlice, abuildSlice, snapL, mapO, treeL, AVal.tree, AVal.flatT, isFlat, ares, isFz, afroz, afrozB, lookupA, lookupH, tops, if_true, if_false, reduceCtorEq, forall_const, ite_true, ite_false, implies_true, walkS, tabS, Tryd.results21, eq_false hltI2, sem_eqlT, eq_true h0, List.take_length, treeL_i, rasX, mapC_nil]
  have hTS : ¬ T = S := by
    rcases hT with h | h
    · exact absurd h h0
    · exact h
  simp (config := { maxSteps := 1000000 }) +decide only [NoH, Old, OldL, nilQ, nilA, asgn, nz, RechL, ReY, isNew, stepO, XPost, postN, XOk, updN, updU, isEff, avalue, aeff, ASt.eval, ASt.put, ASt.set, ASt.new, Nat.reduceDiv, Nat.reduceAdd, Int.reduceToNat, absV, absC, scalar, alen, acap, conc, flats, live, blkOf, aload, rd, part?, afieldAddr, afield, aindexAddr, cellsOf, afill, places, abuild, optI, asliceV, asliceS, szOk, srcCells, aappend, acopy, astore, amakeSlice, abuildSlice, snapL, mapO, treeL, AVal.tree, AVal.flatT, isFlat, ares, isFz, afroz, afrozB, lookupA, lookupH, tops, if_true, if_false, reduceCtorEq, forall_const, ite_true, ite_false, implies_true, walkS, tabS, Tryd.results21, eq_false hltI2, sem_eqlT, eq_false h0, List.take_length, treeL_i]
  refine callK dT' (.inr rfl) ?_
  simp (config := { maxSteps := 1000000 }) +decide only [NoH, Old, OldL, nilQ, nilA, asgn, nz, RechL, ReY, isNew, stepO, XPost, postN, XOk, updN, updU, isEff, avalue, aeff, ASt.eval, ASt.put, ASt.set, ASt.new, Nat.reduceDiv, Nat.reduceAdd, Int.reduceToNat, absV, absC, scalar, alen, acap, conc, flats, live, blkOf, aload, rd, part?, afieldAddr, afield, aindexAddr, cellsOf, afill, places, abuild, optI, asliceV, asliceS, szOk, srcCells, aappend, acopy, astore, amakeSlice, abuildSlice, snapL, mapO, treeL, AVal.tree, AVal.flatT, isFlat, ares, isFz, afroz, afrozB, lookupA, lookupH, tops, if_true, if_false, reduceCtorEq, forall_const, ite_true, ite_false, implies_true, walkS, tabS, Tryd.results21, sem_neqT, eq_false hTS, List.take_length, rasX, mapC_nil]
end Go.Proofs.YtiaemddmkmfijaaDoor
