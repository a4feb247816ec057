/-
  OWN WORK: tables of pairs, rain by frequency and rate; exceedances.
-/
import Derived.Test.YtfdcbmjhoaehlaaDoorDbI
namespace Go.Proofs.YtfdcbmjhoaehlaaDoor
open Go Go.Own Go.Proofs
set_option maxHeartbeats 4000000
set_option maxRecDepth 20000
set_option linter.unusedSimpArgs false
set_option linter.unusedVariables false
/-- the first pair whose number reaches x -/
def kGo (L : List Int) (x : Int) : Nat → Nat → Nat
  | 0, k => k
  | n + 1, k => if L.getD (k * 2) 0 < x then kGo L x n (k + 1) else k
def kOf (L : List Int) (x : Int) : Nat := kGo L x 5 1
theorem kGo_in (L : List Int) (x : Int) : ∀ n k, k ≤ kGo L x n k ∧ kGo L x n k ≤ k + n
  | 0, k => ⟨Nat.le_refl _, Nat.le_refl _⟩
  | n + 1, k => by
    have := kGo_in L x n (k + 1)
    unfold kGo
    split <;> omega
theorem kOf_in (L : List Int) (x : Int) : 1 ≤ kOf L x ∧ kOf L x ≤ 6 := kGo_in L x 5 1
def rowV (L : List Int) (x : Int) : Int := blX (L.getD ((kOf L x - 1) * 2) 0) (L.getD ((kOf L x - 1) * 2 + 1) 0) (L.getD (kOf L x * 2) 0) (L.getD (kOf L x * 2 + 1) 0) x
def RowsOk (L : List Int) : Prop := L.length = 14 ∧ ∀ k, 1 ≤ k → k ≤ 6 → IntKind.i64.wrap (L.getD (k * 2) 0 - L.getD ((k - 1) * 2) 0) ≠ 0
theorem cellD {L : List Int} {j : Nat} (h : j < L.length) : (mapC AVal.i L)[j]? = some (.i (L.getD j 0)) := by
  simp [mapC, List.getD, h]
theorem den_rowsAt (L : List Int) (f : Int) (hL : RowsOk L) : Den Tryd.prog 29 [.lst (mapC AVal.i L) 7, .i f] (.i (rowV L (IntKind.i64.wrap (f.tdiv 1000)))) := by
  refine den_of_awpG (ghs [] []) Tryd.func29 rfl (by kernel_rfl) (Nat.le_of_ble_eq_true rfl) (by simp only [treeL, AVal.tree, treeL_i, treeL_ints, treeL_u8, treeL_append, Bool.and_self, Bool.and_true, Bool.true_and]) (by first | rfl | simp only [treeL, AVal.tree, treeL_i, treeL_ints, treeL_u8, treeL_append, Bool.and_self, Bool.and_true, Bool.true_and]) mixed (by kernel_rfl) fun hl => ?_
  simp only [lensL, lens, lensL_i, lensL_mapC, maxI, and_true, true_and] at hl
  rw [Tryd.ntmps29]
  refine ex_start ?_
  obtain ⟨h14, hne⟩ := hL
  simp (config := { maxSteps := 1000000 }) +decide only [NoH, Old, OldL, nilQ, nilA, RechL, ReY, isNew, stepO, XPost, postN, XOk, updN, updU, isEff, avalue, aeff, ASt.eval, ASt.put, ASt.set, ASt.new, Nat.reduceDiv, Nat.reduceAdd, Int.reduceToNat, absV, absC, scalar, alen, acap, conc, flats, live, blkOf, aload, rd, part?, afieldAddr, afield, aindexAddr, cellsOf, afill, places, abuild, optI, asliceV, asliceS, szOk, srcCells, aappend, astore, amakeSlice, abuildSlice, snapL, mapO, treeL, AVal.tree, AVal.flatT, isFlat, ares, isFz, afroz, afrozB, lookupA, lookupH, tops, if_true, if_false, reduceCtorEq, forall_const, ite_true, ite_false, implies_true, walkS, tabS, Tryd.results29, sem_quo]
  generalize IntKind.i64.wrap (f.tdiv 1000) = x
  refine ex_loop (fun k : {k : Nat // (1 ≤ k ∧ k ≤ 6) ∧ kGo L x (6 - k) k = kOf L x} => mkG (ghs [] []) [(0, .lst (mapC AVal.i L) 7), (5, .i x), (6, .i k.1)] [] 0 49) (fun k => 6 - k.1) ⟨1, ⟨by omega, by omega⟩, rfl⟩ ?_ ?_
  · refine weak_mk rfl (by first | exact Nat.le_refl _ | (simp only [mk_gen]; omega)) ?_ ?_ <;> simp +decide only [w_lookup_nil, w_lookup_cons, ch_ch, ch_lit, lit_ch, wkT, wkH, wkB, WVL, WV_refl', Int.natCast_zero, Int.natCast_add, Int.natCast_one, Nat.sub_self, Nat.sub_zero, List.replicate_zero, List.take_zero, List.nil_append, List.append_nil, fillC_zero, Nat.reduceDiv, Nat.reduceAdd, upd_bk, bk_at, getB_zero, getB_succ, modB_zero, modB_succ, rows_lit, repB_zero, repB_succ, List.length_cons, List.length_nil, upd_upd_same, upd_apply, mk_tmp, mk_heap, mk_gen, lookupA, lookupH, List.getD_cons_zero, List.getD_cons_succ, init_two, tops, Bool.true_and, and_self, and_true, true_and, true_or, if_true, if_false, ite_true, ite_false, reduceCtorEq, reduceIte]
  rintro ⟨k, ⟨k1, k2⟩, hk⟩
  have k1' : 1 ≤ k := k1
  have k2' : k ≤ 6 := k2
  have hk' : kGo L x (6 - k) k = kOf L x := hk
  have w1 : IntKind.i64.wrap ((k : Int) + 1) = ((k + 1 : Nat) : Int) := wrap64 (by omega) (by omega)
  have w2 : IntKind.i64.wrap ((k : Int) - 1) = ((k - 1 : Nat) : Int) := (wrap64 (by omega) (by omega)).trans (by omega)
  have w7 : IntKind.i64.wrap (((7 : Nat) : Int) - 1) = 6 := rfl
  have c7 : k < 7 := by omega
  have c8 : (k + 1) * 2 ≤ L.length := by omega
  have c9 : k - 1 < 7 := by omega
  have c10 : (k - 1 + 1) * 2 ≤ L.length := by omega
  have g1 := cellD (L := L) (j := k * 2) (by omega)
  have g2 := cellD (L := L) (j := k * 2 + 1) (by omega)
  have g3 := cellD (L := L) (j := (k - 1) * 2) (by omega)
  have g4 := cellD (L := L) (j := (k - 1) * 2 + 1) (by omega)
  have fin : kOf L x = k → blX (L.getD ((k - 1) * 2) 0) (L.getD ((k - 1) * 2 + 1) 0) (L.getD (k * 2) 0) (L.getD (k * 2 + 1) 0) x = rowV L x := fun e => by unfold rowV; rw [e]
  by_cases hlt : k < 6
  case neg =>
    have e : k = 6 := by omega
    have ek : kOf L x = k := by rw [← hk', e]; rfl
    have hltI : ¬ (k : Int) < 6 := by omega
    rw [← fin ek]
    simp (config := { maxSteps := 1000000 }) +decide only [NoH, Old, OldL, nilQ, nilA, RechL, ReY, isNew, stepO, XPost, postN, XOk, updN, updU, isEff, avalue, aeff, ASt.eval, ASt.put, ASt.set, ASt.new, Nat.reduceDiv, Nat.reduceAdd, Int.reduceToNat, absV, absC, scalar, alen, acap, conc, flats, live, blkOf, aload, rd, part?, afieldAddr, afield, aindexAddr, cellsOf, afill, places, abuild, optI, asliceV, asliceS, szOk, srcCells, aappend, astore, amakeSlice, abuildSlice, snapL, mapO, treeL, AVal.tree, AVal.flatT, isFlat, ares, isFz, afroz, afrozB, lookupA, lookupH, tops, if_true, if_false, reduceCtorEq, forall_const, ite_true, ite_false, implies_true, walkS, tabS, Tryd.results29, w7, eq_false hltI, w1, w2, c7, c8, c9, c10, g1, g2, g3, g4]
    refine callK (den_blendX _ _ _ _ x (fun _ => hne k k1' k2')) (by first | exact .inl rfl | exact .inr rfl) ?_
    simp (config := { maxSteps := 1000000 }) +decide only [NoH, Old, OldL, nilQ, nilA, RechL, ReY, isNew, stepO, XPost, postN, XOk, updN, updU, isEff, avalue, aeff, ASt.eval, ASt.put, ASt.set, ASt.new, Nat.reduceDiv, Nat.reduceAdd, Int.reduceToNat, absV, absC, scalar, alen, acap, conc, flats, live, blkOf, aload, rd, part?, afieldAddr, afield, aindexAddr, cellsOf, afill, places, abuild, optI, asliceV, asliceS, szOk, srcCells, aappend, astore, amakeSlice, abuildSlice, snapL, mapO, treeL, AVal.tree, AVal.flatT, isFlat, ares, isFz, afroz, afrozB, lookupA, lookupH, tops, if_true, if_false, reduceCtorEq, forall_const, ite_true, ite_false, implies_true, walkS, tabS, Tryd.results29]
  have hltI : (k : Int) < 6 := by omega
  have e6 : 6 - k = (5 - k) + 1 := by omega
  by_cases c : L.getD (k * 2) 0 < x
  · have ek : kGo L x (6 - (k + 1)) (k + 1) = kOf L x := by
      rw [← hk', e6, show 6 - (k + 1) = 5 - k by omega]
      exact (if_pos c).symm
    simp (config := { maxSteps := 1000000 }) +decide only [NoH, Old, OldL, nilQ, nilA, RechL, ReY, isNew, stepO, XPost, postN, XOk, updN, updU, isEff, avalue, aeff, ASt.eval, ASt.put, ASt.set, ASt.new, Nat.reduceDiv, Nat.reduceAdd, Int.reduceToNat, absV, absC, scalar, alen, acap, conc, flats, live, blkOf, aload, rd, part?, afieldAddr, afield, aindexAddr, cellsOf, afill, places, abuild, optI, asliceV, asliceS, szOk, srcCells, aappend, astore, amakeSlice, abuildSlice, snapL, mapO, treeL, AVal.tree, AVal.flatT, isFlat, ares, isFz, afroz, afrozB, lookupA, lookupH, tops, if_true, if_false, reduceCtorEq, forall_const, ite_true, ite_false, implies_true, walkS, tabS, Tryd.results29, w7, eq_true hltI, w1, w2, c7, c8, g1, eq_true c]
    refine ⟨⟨k + 1, ⟨by omega, by omega⟩, ek⟩, ?_, by show 6 - (k + 1) < 6 - k; omega⟩
    · refine weak_mk rfl (by first | exact Nat.le_refl _ | (simp only [mk_gen]; omega)) ?_ ?_ <;> simp +decide only [w_lookup_nil, w_lookup_cons, ch_ch, ch_lit, lit_ch, wkT, wkH, wkB, WVL, WV_refl', Int.natCast_zero, Int.natCast_add, Int.natCast_one, Nat.sub_self, Nat.sub_zero, List.replicate_zero, List.take_zero, List.nil_append, List.append_nil, fillC_zero, Nat.reduceDiv, Nat.reduceAdd, upd_bk, bk_at, getB_zero, getB_succ, modB_zero, modB_succ, rows_lit, repB_zero, repB_succ, List.length_cons, List.length_nil, upd_upd_same, upd_apply, mk_tmp, mk_heap, mk_gen, lookupA, lookupH, List.getD_cons_zero, List.getD_cons_succ, init_two, tops, Bool.true_and, and_self, and_true, true_and, true_or, if_true, if_false, ite_true, ite_false, reduceCtorEq, reduceIte]
  · have ek : kOf L x = k := by
      rw [← hk', e6]
      exact if_neg c
    rw [← fin ek]
    simp (config := { maxSteps := 1000000 }) +decide only [NoH, Old, OldL, nilQ, nilA, RechL, ReY, isNew, stepO, XPost, postN, XOk, updN, updU, isEff, avalue, aeff, ASt.eval, ASt.put, ASt.set, ASt.new, Nat.reduceDiv, Nat.reduceAdd, Int.reduceToNat, absV, absC, scalar, alen, acap, conc, flats, live, blkOf, aload, rd, part?, afieldAddr, afield, aindexAddr, cellsOf, afill, places, abuild, optI, asliceV, asliceS, szOk, srcCells, aappend, astore, amakeSlice, abuildSlice, snapL, mapO, treeL, AVal.tree, AVal.flatT, isFlat, ares, isFz, afroz, afrozB, lookupA, lookupH, tops, if_true, if_false, reduceCtorEq, forall_const, ite_true, ite_false, implies_true, walkS, tabS, Tryd.results29, w7, eq_true hltI, w1, w2, c7, c8, c9, c10, g1, g2, g3, g4, eq_false c]
    refine callK (den_blendX _ _ _ _ x (fun _ => hne k k1' k2')) (by first | exact .inl rfl | exact .inr rfl) ?_
    simp (config := { maxSteps := 1000000 }) +decide only [NoH, Old, OldL, nilQ, nilA, RechL, ReY, isNew, stepO, XPost, postN, XOk, updN, updU, isEff, avalue, aeff, ASt.eval, ASt.put, ASt.set, ASt.new, Nat.reduceDiv, Nat.reduceAdd, Int.reduceToNat, absV, absC, scalar, alen, acap, conc, flats, live, blkOf, aload, rd, part?, afieldAddr, afield, aindexAddr, cellsOf, afill, places, abuild, optI, asliceV, asliceS, szOk, srcCells, aappend, astore, amakeSlice, abuildSlice, snapL, mapO, treeL, AVal.tree, AVal.flatT, isFlat, ares, isFz, afroz, afrozB, lookupA, lookupH, tops, if_true, if_false, reduceCtorEq, forall_const, ite_true, ite_false, implies_true, walkS, tabS, Tryd.results29]
end Go.Proofs.YtfdcbmjhoaehlaaDoor
