/-
  OWN WORK: tables of any number of rows; losses by gases, rain, vegetation, clutter, plain.
-/
import Derived.Test.YtfdcbmjhoaehlaaDoorDbN
namespace Go.Proofs.YtfdcbmjhoaehlaaDoor
open Go Go.Own Go.Proofs
set_option maxHeartbeats 4000000
set_option maxRecDepth 20000
set_option linter.unusedSimpArgs false
set_option linter.unusedVariables false
theorem drN_cross {n m n' m' x y : Int} (hm : 0 < m) (hm' : 0 < m') (h : n * m' < n' * m) (h1 : IsDrN m n x) (h2 : IsDrN m' n' y) : x ≤ y := by
  refine Classical.byContradiction fun c => ?_
  have e1 : m' * (2 * (m * x - n)) ≤ m' * m := Int.mul_le_mul_of_nonneg_left h1.1 (by omega)
  have e2 : m * (-m') ≤ m * (2 * (m' * y - n')) := Int.mul_le_mul_of_nonneg_left h2.2 (by omega)
  have hp : 0 ≤ m * m' := Int.mul_nonneg (by omega) (by omega)
  have e3 : m * m' * (y + 1) ≤ m * m' * x := Int.mul_le_mul_of_nonneg_left (by omega) hp
  have f1 : m' * (2 * (m * x - n)) = 2 * (m * m' * x) - 2 * (n * m') := by grind
  have f2 : m * (2 * (m' * y - n')) = 2 * (m * m' * y) - 2 * (n' * m) := by grind
  have f3 : m * m' * (y + 1) = m * m' * y + m * m' := by grind
  have f4 : m' * m = m * m' := Int.mul_comm _ _
  have f5 : m * -m' = -(m * m') := by grind
  rw [f1, f4] at e1
  rw [f2, f5] at e2
  rw [f3] at e3
  generalize m * m' * x = X at *
  generalize m * m' * y = Y at *
  generalize m * m' = P at *
  generalize n * m' = a at *
  generalize n' * m = b at *
  omega
theorem drX_0 {m : Int} (hm : 0 < m) (hm2 : m ≤ 1000000000000000) : drX 0 m = 0 := by
  have h := drX_is (n := 0) hm hm2 (by omega) (by omega)
  have a := drN_up (k := 0) h hm (by omega)
  have b := drN_dn (k := 0) h hm (by omega)
  omega
def rowVN (N : Nat) (L : List Int) (x : Int) : Int := blX (L.getD ((kGo L x (N - 2) 1 - 1) * 2) 0) (L.getD ((kGo L x (N - 2) 1 - 1) * 2 + 1) 0) (L.getD (kGo L x (N - 2) 1 * 2) 0) (L.getD (kGo L x (N - 2) 1 * 2 + 1) 0) x
def RowsOkN (N : Nat) (L : List Int) : Prop := (2 ≤ N ∧ N ≤ 100 ∧ L.length = N * 2) ∧ ∀ k, 1 ≤ k → k < N → IntKind.i64.wrap (L.getD (k * 2) 0 - L.getD ((k - 1) * 2) 0) ≠ 0
theorem rowsOkN_of {N : Nat} {L : List Int} (h0 : 2 ≤ N ∧ N ≤ 100 ∧ L.length = N * 2) (h : ∀ k : Fin (N - 1), IntKind.i64.wrap (L.getD ((k.val + 1) * 2) 0 - L.getD (k.val * 2) 0) ≠ 0) : RowsOkN N L :=
  ⟨h0, fun k k1 k2 => by
    have := h ⟨k - 1, by omega⟩
    simp only [show k - 1 + 1 = k by omega] at this
    exact this⟩
theorem den_rowsAtN (N : Nat) (L : List Int) (f : Int) (hL : RowsOkN N L) : Den Tryd.prog 29 [.lst (mapC AVal.i L) N, .i f] (.i (rowVN N L (IntKind.i64.wrap (f.tdiv 1000)))) := by
  refine den_of_awpG (ghs [] []) Tryd.func29 rfl (by kernel_rfl) (Nat.le_of_ble_eq_true rfl) (by simp only [treeL, AVal.tree, treeL_i, treeL_ints, treeL_u8, treeL_append, Bool.and_self, Bool.and_true, Bool.true_and]) (by first | rfl | simp only [treeL, AVal.tree, treeL_i, treeL_ints, treeL_u8, treeL_append, Bool.and_self, Bool.and_true, Bool.true_and]) mixed (by kernel_rfl) fun hl => ?_
  simp only [lensL, lens, lensL_i, lensL_mapC, maxI, and_true, true_and] at hl
  rw [Tryd.ntmps29]
  refine ex_start ?_
  obtain ⟨⟨n2, n100, hlen⟩, hne⟩ := hL
  simp (config := { maxSteps := 1000000 }) +decide only [NoH, Old, OldL, nilQ, nilA, RechL, ReY, isNew, stepO, XPost, postN, XOk, updN, updU, isEff, avalue, aeff, ASt.eval, ASt.put, ASt.set, ASt.new, Nat.reduceDiv, Nat.reduceAdd, Int.reduceToNat, absV, absC, scalar, alen, acap, conc, flats, live, blkOf, aload, rd, part?, afieldAddr, afield, aindexAddr, cellsOf, afill, places, abuild, optI, asliceV, asliceS, szOk, srcCells, aappend, astore, amakeSlice, abuildSlice, snapL, mapO, treeL, AVal.tree, AVal.flatT, isFlat, ares, isFz, afroz, afrozB, lookupA, lookupH, tops, if_true, if_false, reduceCtorEq, forall_const, ite_true, ite_false, implies_true, walkS, tabS, Tryd.results29, sem_quo]
  generalize IntKind.i64.wrap (f.tdiv 1000) = x
  refine ex_loop (fun k : {k : Nat // (1 ≤ k ∧ k < N) ∧ kGo L x (N - 1 - k) k = kGo L x (N - 2) 1} => mkG (ghs [] []) [(0, .lst (mapC AVal.i L) N), (5, .i x), (6, .i k.1)] [] 0 49) (fun k => N - 1 - k.1) ⟨1, ⟨by omega, by omega⟩, by rw [show N - 1 - 1 = N - 2 by omega]⟩ ?_ ?_
  · refine weak_mk rfl (by first | exact Nat.le_refl _ | (simp only [mk_gen]; omega)) ?_ ?_ <;> simp +decide only [w_lookup_nil, w_lookup_cons, ch_ch, ch_lit, lit_ch, wkT, wkH, wkB, WVL, WV_refl', Int.natCast_zero, Int.natCast_add, Int.natCast_one, Nat.sub_self, Nat.sub_zero, List.replicate_zero, List.take_zero, List.nil_append, List.append_nil, fillC_zero, Nat.reduceDiv, Nat.reduceAdd, upd_bk, bk_at, getB_zero, getB_succ, modB_zero, modB_succ, rows_lit, repB_zero, repB_succ, List.length_cons, List.length_nil, upd_upd_same, upd_apply, mk_tmp, mk_heap, mk_gen, lookupA, lookupH, List.getD_cons_zero, List.getD_cons_succ, init_two, tops, Bool.true_and, and_self, and_true, true_and, true_or, if_true, if_false, ite_true, ite_false, reduceCtorEq, reduceIte]
  rintro ⟨k, ⟨k1, k2⟩, hk⟩
  have k1' : 1 ≤ k := k1
  have k2' : k < N := k2
  have hk' : kGo L x (N - 1 - k) k = kGo L x (N - 2) 1 := hk
  have w1 : IntKind.i64.wrap ((k : Int) + 1) = ((k + 1 : Nat) : Int) := wrap64 (by omega) (by omega)
  have w2 : IntKind.i64.wrap ((k : Int) - 1) = ((k - 1 : Nat) : Int) := (wrap64 (by omega) (by omega)).trans (by omega)
  have w7 : IntKind.i64.wrap ((N : Int) - 1) = (N : Int) - 1 := wrap64 (by omega) (by omega)
  have c7 : k < N := by omega
  have c8 : (k + 1) * 2 ≤ L.length := by omega
  have c9 : k - 1 < N := by omega
  have c10 : (k - 1 + 1) * 2 ≤ L.length := by omega
  have g1 := cellD (L := L) (j := k * 2) (by omega)
  have g2 := cellD (L := L) (j := k * 2 + 1) (by omega)
  have g3 := cellD (L := L) (j := (k - 1) * 2) (by omega)
  have g4 := cellD (L := L) (j := (k - 1) * 2 + 1) (by omega)
  have fin : kGo L x (N - 2) 1 = k → blX (L.getD ((k - 1) * 2) 0) (L.getD ((k - 1) * 2 + 1) 0) (L.getD (k * 2) 0) (L.getD (k * 2 + 1) 0) x = rowVN N L x := fun e => by unfold rowVN; rw [e]
  by_cases hlt : k < N - 1
  case neg =>
    have e : N - 1 - k = 0 := by omega
    have ek : kGo L x (N - 2) 1 = k := by rw [← hk', e]; rfl
    have hltI : ¬ (k : Int) < (N : Int) - 1 := by omega
    rw [← fin ek]
    simp (config := { maxSteps := 1000000 }) +decide only [NoH, Old, OldL, nilQ, nilA, RechL, ReY, isNew, stepO, XPost, postN, XOk, updN, updU, isEff, avalue, aeff, ASt.eval, ASt.put, ASt.set, ASt.new, Nat.reduceDiv, Nat.reduceAdd, Int.reduceToNat, absV, absC, scalar, alen, acap, conc, flats, live, blkOf, aload, rd, part?, afieldAddr, afield, aindexAddr, cellsOf, afill, places, abuild, optI, asliceV, asliceS, szOk, srcCells, aappend, astore, amakeSlice, abuildSlice, snapL, mapO, treeL, AVal.tree, AVal.flatT, isFlat, ares, isFz, afroz, afrozB, lookupA, lookupH, tops, if_true, if_false, reduceCtorEq, forall_const, ite_true, ite_false, implies_true, walkS, tabS, Tryd.results29, w7, eq_false hltI, w1, w2, c7, c8, c9, c10, g1, g2, g3, g4]
    refine callK (den_blendX _ _ _ _ x (fun _ => hne k k1' k2')) (by first | exact .inl rfl | exact .inr rfl) ?_
    simp (config := { maxSteps := 1000000 }) +decide only [NoH, Old, OldL, nilQ, nilA, RechL, ReY, isNew, stepO, XPost, postN, XOk, updN, updU, isEff, avalue, aeff, ASt.eval, ASt.put, ASt.set, ASt.new, Nat.reduceDiv, Nat.reduceAdd, Int.reduceToNat, absV, absC, scalar, alen, acap, conc, flats, live, blkOf, aload, rd, part?, afieldAddr, afield, aindexAddr, cellsOf, afill, places, abuild, optI, asliceV, asliceS, szOk, srcCells, aappend, astore, amakeSlice, abuildSlice, snapL, mapO, treeL, AVal.tree, AVal.flatT, isFlat, ares, isFz, afroz, afrozB, lookupA, lookupH, tops, if_true, if_false, reduceCtorEq, forall_const, ite_true, ite_false, implies_true, walkS, tabS, Tryd.results29]
  have hltI : (k : Int) < (N : Int) - 1 := by omega
  have e6 : N - 1 - k = (N - 2 - k) + 1 := by omega
  by_cases c : L.getD (k * 2) 0 < x
  · have ek : kGo L x (N - 1 - (k + 1)) (k + 1) = kGo L x (N - 2) 1 := by
      rw [← hk', e6, show N - 1 - (k + 1) = N - 2 - k by omega]
      exact (if_pos c).symm
    simp (config := { maxSteps := 1000000 }) +decide only [NoH, Old, OldL, nilQ, nilA, RechL, ReY, isNew, stepO, XPost, postN, XOk, updN, updU, isEff, avalue, aeff, ASt.eval, ASt.put, ASt.set, ASt.new, Nat.reduceDiv, Nat.reduceAdd, Int.reduceToNat, absV, absC, scalar, alen, acap, conc, flats, live, blkOf, aload, rd, part?, afieldAddr, afield, aindexAddr, cellsOf, afill, places, abuild, optI, asliceV, asliceS, szOk, srcCells, aappend, astore, amakeSlice, abuildSlice, snapL, mapO, treeL, AVal.tree, AVal.flatT, isFlat, ares, isFz, afroz, afrozB, lookupA, lookupH, tops, if_true, if_false, reduceCtorEq, forall_const, ite_true, ite_false, implies_true, walkS, tabS, Tryd.results29, w7, eq_true hltI, w1, w2, c7, c8, g1, eq_true c]
    refine ⟨⟨k + 1, ⟨by omega, by omega⟩, ek⟩, ?_, by show N - 1 - (k + 1) < N - 1 - k; omega⟩
    · refine weak_mk rfl (by first | exact Nat.le_refl _ | (simp only [mk_gen]; omega)) ?_ ?_ <;> simp +decide only [w_lookup_nil, w_lookup_cons, ch_ch, ch_lit, lit_ch, wkT, wkH, wkB, WVL, WV_refl', Int.natCast_zero, Int.natCast_add, Int.natCast_one, Nat.sub_self, Nat.sub_zero, List.replicate_zero, List.take_zero, List.nil_append, List.append_nil, fillC_zero, Nat.reduceDiv, Nat.reduceAdd, upd_bk, bk_at, getB_zero, getB_succ, modB_zero, modB_succ, rows_lit, repB_zero, repB_succ, List.length_cons, List.length_nil, upd_upd_same, upd_apply, mk_tmp, mk_heap, mk_gen, lookupA, lookupH, List.getD_cons_zero, List.getD_cons_succ, init_two, tops, Bool.true_and, and_self, and_true, true_and, true_or, if_true, if_false, ite_true, ite_false, reduceCtorEq, reduceIte]
  · have ek : kGo L x (N - 2) 1 = k := by
      rw [← hk', e6]
      exact if_neg c
    rw [← fin ek]
    simp (config := { maxSteps := 1000000 }) +decide only [NoH, Old, OldL, nilQ, nilA, RechL, ReY, isNew, stepO, XPost, postN, XOk, updN, updU, isEff, avalue, aeff, ASt.eval, ASt.put, ASt.set, ASt.new, Nat.reduceDiv, Nat.reduceAdd, Int.reduceToNat, absV, absC, scalar, alen, acap, conc, flats, live, blkOf, aload, rd, part?, afieldAddr, afield, aindexAddr, cellsOf, afill, places, abuild, optI, asliceV, asliceS, szOk, srcCells, aappend, astore, amakeSlice, abuildSlice, snapL, mapO, treeL, AVal.tree, AVal.flatT, isFlat, ares, isFz, afroz, afrozB, lookupA, lookupH, tops, if_true, if_false, reduceCtorEq, forall_const, ite_true, ite_false, implies_true, walkS, tabS, Tryd.results29, w7, eq_true hltI, w1, w2, c7, c8, c9, c10, g1, g2, g3, g4, eq_false c]
    refine callK (den_blendX _ _ _ _ x (fun _ => hne k k1' k2')) (by first | exact .inl rfl | exact .inr rfl) ?_
    simp (config := { maxSteps := 1000000 }) +decide only [NoH, Old, OldL, nilQ, nilA, RechL, ReY, isNew, stepO, XPost, postN, XOk, updN, updU, isEff, avalue, aeff, ASt.eval, ASt.put, ASt.set, ASt.new, Nat.reduceDiv, Nat.reduceAdd, Int.reduceToNat, absV, absC, scalar, alen, acap, conc, flats, live, blkOf, aload, rd, part?, afieldAddr, afield, aindexAddr, cellsOf, afill, places, abuild, optI, asliceV, asliceS, szOk, srcCells, aappend, astore, amakeSlice, abuildSlice, snapL, mapO, treeL, AVal.tree, AVal.flatT, isFlat, ares, isFz, afroz, afrozB, lookupA, lookupH, tops, if_true, if_false, reduceCtorEq, forall_const, ite_true, ite_false, implies_true, walkS, tabS, Tryd.results29]
def TabN (N : Nat) (L : List Int) (lo hi : Int) : Prop := ∀ k : Fin N, (0 ≤ L.getD (k.val * 2) 0 ∧ L.getD (k.val * 2) 0 ≤ 1000000) ∧ lo ≤ L.getD (k.val * 2 + 1) 0 ∧ L.getD (k.val * 2 + 1) 0 ≤ hi
theorem rowVN_in {N : Nat} {L : List Int} {lo hi : Int} (hN : 2 ≤ N) (h : TabN N L lo hi) (hlo : -1000000 ≤ lo) (hhi : hi ≤ 1000000) (x : Int) : lo ≤ rowVN N L x ∧ rowVN N L x ≤ hi := by
  have hk := kGo_in L x (N - 2) 1
  have h1 := h ⟨kGo L x (N - 2) 1 - 1, by omega⟩
  have h2 := h ⟨kGo L x (N - 2) 1, by omega⟩
  exact blX_in h1.1.1 h2.1.2 hlo hhi h1.2 h2.2
def gsL : List Int := [1000, 5, 10000, 14, 20000, 110, 22000, 190, 30000, 90, 50000, 500, 60000, 15000, 70000, 450, 100000, 480]
def vgL : List Int := [100, 30, 1000, 150, 10000, 900, 100000, 4000]
theorem gsL_ok : RowsOkN 9 gsL := rowsOkN_of (by decide) (by decide +kernel)
theorem vgL_ok : RowsOkN 4 vgL := rowsOkN_of (by decide) (by decide +kernel)
theorem gsL_tab : TabN 9 gsL 5 15000 := by unfold TabN; decide +kernel
theorem vgL_tab : TabN 4 vgL 30 4000 := by unfold TabN; decide +kernel
def gsV (f : Int) : Int := rowVN 9 gsL (IntKind.i64.wrap (f.tdiv 1000))
def glV (f d : Int) : Int := drX (IntKind.i64.wrap (gsV f * d)) 1000
theorem gsV_in (f : Int) : 5 ≤ gsV f ∧ gsV f ≤ 15000 := rowVN_in (by decide) gsL_tab (by decide) (by decide) _
theorem glV_mono {f d d' : Int} (h0 : 1 ≤ d) (h : d ≤ d') (h1 : d' ≤ 283000) : glV f d ≤ glV f d' := by
  have g := gsV_in f
  unfold glV
  generalize gsV f = q at g ⊢
  have p0 : 0 ≤ q * d := Int.mul_nonneg (by omega) (by omega)
  have p1 : q * d ≤ q * d' := Int.mul_le_mul_of_nonneg_left h (by omega)
  have p2 : q * d' ≤ 15000 * d' := Int.mul_le_mul_of_nonneg_right g.2 (by omega)
  have w1 : IntKind.i64.wrap (q * d) = q * d := wrap64 (by omega) (by omega)
  have w2 : IntKind.i64.wrap (q * d') = q * d' := wrap64 (by omega) (by omega)
  rw [w1, w2]
  exact drN_mono p1 (drX_is (by decide) (by decide) (by omega) (by omega)) (drX_is (by decide) (by decide) (by omega) (by omega)) (by decide)
theorem rlV_mono {f i d d' : Int} (hi : 0 ≤ i ∧ i ≤ 200) (h0 : 1 ≤ d) (h : d ≤ d') (h1 : d' ≤ 283000) : rlV f i d ≤ rlV f i d' := by
  have g := rsV_in f i hi.2
  have a := raV_in hi
  unfold rlV
  generalize rsV f i = q at g ⊢
  generalize raV i = A at a ⊢
  have p0 : 0 ≤ q * d := Int.mul_nonneg (by omega) (by omega)
  have p1 : q * d ≤ q * d' := Int.mul_le_mul_of_nonneg_left h (by omega)
  have p2 : q * d' ≤ 10000000 * d' := Int.mul_le_mul_of_nonneg_right g.2 (by omega)
  have w1 : IntKind.i64.wrap (q * d) = q * d := wrap64 (by omega) (by omega)
  have w2 : IntKind.i64.wrap (q * d') = q * d' := wrap64 (by omega) (by omega)
  have q0 : 0 ≤ q * d * A := Int.mul_nonneg p0 (by omega)
  have q1 : q * d * A ≤ q * d' * A := Int.mul_le_mul_of_nonneg_right p1 (by omega)
  have q2 : q * d' * A ≤ q * d' * 100000 := Int.mul_le_mul_of_nonneg_left a.2 (by omega)
  have w3 : IntKind.i64.wrap (q * d * A) = q * d * A := wrap64 (by omega) (by omega)
  have w4 : IntKind.i64.wrap (q * d' * A) = q * d' * A := wrap64 (by omega) (by omega)
  rw [w1, w2, w3, w4]
  by_cases e : q = 0
  · subst e
    simp only [Int.zero_mul]
    rw [drX_0 (by omega) (by omega), drX_0 (by omega) (by omega)]
    exact Int.le_refl _
  by_cases e2 : d = d'
  · subst e2; exact Int.le_refl _
  refine drN_cross (n := q * d * A) (m := 1000 * (d + A)) (n' := q * d' * A) (m' := 1000 * (d' + A)) (by omega) (by omega) ?_ (drX_is (by omega) (by omega) (by omega) (by omega)) (drX_is (by omega) (by omega) (by omega) (by omega))
  have e3 : q * d' * A * (1000 * (d + A)) = q * d * A * (1000 * (d' + A)) + 1000 * (q * (A * (A * (d' - d)))) := by grind
  have e4 : 0 < q * (A * (A * (d' - d))) := Int.mul_pos (by omega) (Int.mul_pos (by omega) (Int.mul_pos (by omega) (by omega)))
  rw [e3]
  generalize q * d * A * (1000 * (d' + A)) = B at *
  generalize q * (A * (A * (d' - d))) = C at *
  omega
def vxV (f a : Int) : Int := IntKind.i64.wrap (a * rowVN 4 vgL (IntKind.i64.wrap (f.tdiv 1000)))
def vgV (f a : Int) : Int := drX (IntKind.i64.wrap (30000 * vxV f a)) (IntKind.i64.wrap (30000 + vxV f a))
theorem vxV_in (f a : Int) (h : 0 ≤ a ∧ a ≤ 1000) : vxV f a = a * rowVN 4 vgL (IntKind.i64.wrap (f.tdiv 1000)) ∧ 0 ≤ vxV f a ∧ vxV f a ≤ 4000000 := by
  have g : 30 ≤ rowVN 4 vgL (IntKind.i64.wrap (f.tdiv 1000)) ∧ rowVN 4 vgL (IntKind.i64.wrap (f.tdiv 1000)) ≤ 4000 := rowVN_in (by decide) vgL_tab (by decide) (by decide) _
  unfold vxV
  generalize rowVN 4 vgL (IntKind.i64.wrap (f.tdiv 1000)) = q at g ⊢
  have p0 : 0 ≤ a * q := Int.mul_nonneg (by omega) (by omega)
  have p1 : a * q ≤ a * 4000 := Int.mul_le_mul_of_nonneg_left g.2 (by omega)
  have w1 : IntKind.i64.wrap (a * q) = a * q := wrap64 (by omega) (by omega)
  rw [w1]
  exact ⟨rfl, p0, by omega⟩
theorem vgV_up (f a : Int) (h : 0 ≤ a ∧ a ≤ 1000) : vgV f a ≤ 30000 := by
  obtain ⟨_, x1, x2⟩ := vxV_in f a h
  unfold vgV
  generalize vxV f a = x at x1 x2 ⊢
  have w1 : IntKind.i64.wrap (30000 * x) = 30000 * x := wrap64 (by omega) (by omega)
  have w2 : IntKind.i64.wrap (30000 + x) = 30000 + x := wrap64 (by omega) (by omega)
  rw [w1, w2]
  exact drN_up (k := 30000) (drX_is (by omega) (by omega) (by omega) (by omega)) (by omega) (by omega)
theorem vgV_mono {f a b : Int} (h0 : 0 ≤ a) (h : a ≤ b) (hb : b ≤ 1000) : vgV f a ≤ vgV f b := by
  obtain ⟨ea, x1, x2⟩ := vxV_in f a ⟨h0, by omega⟩
  obtain ⟨eb, y1, y2⟩ := vxV_in f b ⟨by omega, hb⟩
  have g : 30 ≤ rowVN 4 vgL (IntKind.i64.wrap (f.tdiv 1000)) ∧ rowVN 4 vgL (IntKind.i64.wrap (f.tdiv 1000)) ≤ 4000 := rowVN_in (by decide) vgL_tab (by decide) (by decide) _
  have hxy : vxV f a ≤ vxV f b := by
    rw [ea, eb]
    exact Int.mul_le_mul_of_nonneg_right h (by omega)
  unfold vgV
  generalize vxV f a = x at *
  generalize vxV f b = y at *
  have w1 : IntKind.i64.wrap (30000 * x) = 30000 * x := wrap64 (by omega) (by omega)
  have w2 : IntKind.i64.wrap (30000 + x) = 30000 + x := wrap64 (by omega) (by omega)
  have w3 : IntKind.i64.wrap (30000 * y) = 30000 * y := wrap64 (by omega) (by omega)
  have w4 : IntKind.i64.wrap (30000 + y) = 30000 + y := wrap64 (by omega) (by omega)
  rw [w1, w2, w3, w4]
  by_cases e : x = y
  · subst e; exact Int.le_refl _
  refine drN_cross (n := 30000 * x) (m := 30000 + x) (n' := 30000 * y) (m' := 30000 + y) (by omega) (by omega) ?_ (drX_is (by omega) (by omega) (by omega) (by omega)) (drX_is (by omega) (by omega) (by omega) (by omega))
  have e3 : 30000 * y * (30000 + x) = 30000 * x * (30000 + y) + 30000 * (30000 * (y - x)) := by grind
  rw [e3]
  generalize 30000 * x * (30000 + y) = B at *
  omega
/-- heights and losses of the classes of clutter -/
def hgT (c : Int) : Int := [0, 20, 10, 120, 70, 90, 160, 240].getD c.toNat 0
def loT (c : Int) : Int := [0, 1000, 500, 12000, 8000, 10000, 16000, 20000].getD c.toNat 0
def ClsOk (c : Int) : Prop := 0 ≤ c ∧ c ≤ 7
theorem T_dec : ∀ k : Fin 8, (0 ≤ hgT (k.val : Int) ∧ hgT (k.val : Int) ≤ 240) ∧ 0 ≤ loT (k.val : Int) ∧ loT (k.val : Int) ≤ 20000 := by decide +kernel
theorem T_in {c : Int} (h : ClsOk c) : (0 ≤ hgT c ∧ hgT c ≤ 240) ∧ 0 ≤ loT c ∧ loT c ≤ 20000 := by
  obtain ⟨h1, h2⟩ := h
  have := T_dec ⟨c.toNat, by omega⟩
  simp only [show ((c.toNat : Nat) : Int) = c by omega] at this
  exact this
def pfV (f : Int) : Int := (if 10000000 < f then 25 else 0) + ((if 3000000 < f then 25 else 0) + ((if 1000000 < f then 25 else 0) + ((if 300000 < f then 25 else 0) + 50)))
theorem pfV_in (f : Int) : 50 ≤ pfV f ∧ pfV f ≤ 150 := by
  unfold pfV
  split <;> split <;> split <;> split <;> omega
def cuV (c f a : Int) : Int := if hgT c ≤ a then 0 else drX (pfV f * loT c * (hgT c - a)) (100 * hgT c)
theorem cu_n {c f a : Int} (h : ClsOk c) (h0 : 0 ≤ a) (h1 : a < hgT c) : (0 ≤ pfV f * loT c ∧ pfV f * loT c ≤ 3000000) ∧ 0 ≤ pfV f * loT c * (hgT c - a) ∧ pfV f * loT c * (hgT c - a) ≤ 720000000 := by
  have p := pfV_in f
  obtain ⟨t1, t2⟩ := T_in h
  have a0 : 0 ≤ pfV f * loT c := Int.mul_nonneg (by omega) (by omega)
  have a1 : pfV f * loT c ≤ 150 * loT c := Int.mul_le_mul_of_nonneg_right p.2 (by omega)
  have b0 : 0 ≤ pfV f * loT c * (hgT c - a) := Int.mul_nonneg a0 (by omega)
  have b1 : pfV f * loT c * (hgT c - a) ≤ pfV f * loT c * 240 := Int.mul_le_mul_of_nonneg_left (by omega) a0
  omega
theorem cuV_in {c f a : Int} (h : ClsOk c) (h0 : 0 ≤ a) : 0 ≤ cuV c f a ∧ cuV c f a ≤ 1000000000 := by
  unfold cuV
  split
  · omega
  · rename_i hn
    have q := cu_n (f := f) h h0 (by omega)
    obtain ⟨t1, t2⟩ := T_in h
    have hd := drX_is (n := pfV f * loT c * (hgT c - a)) (m := 100 * hgT c) (by omega) (by omega) (by omega) (by omega)
    refine ⟨drN_dn (k := 0) hd (by omega) (by omega), drN_up hd (by omega) ?_⟩
    omega
theorem cuV_mono {c f a b : Int} (h : ClsOk c) (h0 : 0 ≤ a) (hab : a ≤ b) : cuV c f b ≤ cuV c f a := by
  have i1 := cuV_in (f := f) h h0
  unfold cuV at i1 ⊢
  by_cases c1 : hgT c ≤ b
  · rw [if_pos c1]; exact i1.1
  rw [if_neg c1, if_neg (by omega)]
  have q := cu_n (f := f) h h0 (show a < hgT c by omega)
  have q2 := cu_n (f := f) h (show 0 ≤ b by omega) (by omega)
  obtain ⟨t1, t2⟩ := T_in h
  have hm : pfV f * loT c * (hgT c - b) ≤ pfV f * loT c * (hgT c - a) := Int.mul_le_mul_of_nonneg_left (by omega) q.1.1
  exact drN_mono hm (drX_is (by omega) (by omega) (by omega) (by omega)) (drX_is (by omega) (by omega) (by omega) (by omega)) (by omega)
theorem cuV_top (c f : Int) : cuV c f (hgT c) = 0 := if_pos (Int.le_refl _)
end Go.Proofs.YtfdcbmjhoaehlaaDoor
