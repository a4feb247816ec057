/-
  OWN WORK: the points of a profile, and what a terrain has there.
-/
import Derived.Test.YtngghngfgpiomaaTeB
import Derived.Test.YtngghngfgpiomaaTeC
namespace Go.Proofs.Ytngghngfgpiomaa
open Go Go.Own Go.Proofs
set_option maxHeartbeats 4000000
set_option maxRecDepth 20000
set_option linter.unusedSimpArgs false
def plC (a b : Int) (n : Nat) (k : Nat) : Int := a + drV ((k : Int) * (b - a)) ((n : Int) - 1)
def Befo (ax ay bx by' : Int) : Prop := ax < bx ∨ ax = bx ∧ ay ≤ by'
theorem plC_in {a b : Int} {n k : Nat} (hn : 2 ≤ n) (hk : k < n) (M : Int) (ha : 0 ≤ a ∧ a ≤ M) (hb : 0 ≤ b ∧ b ≤ M) : 0 ≤ plC a b n k ∧ plC a b n k ≤ M := by
  have h := drV_is (n := (k : Int) * (b - a)) (m := (n : Int) - 1) (by omega)
  unfold plC
  generalize drV ((k : Int) * (b - a)) ((n : Int) - 1) = d at h ⊢
  obtain ⟨h1, h2⟩ := h
  by_cases c : a ≤ b
  · have m1 : 0 ≤ (k : Int) * (b - a) := Int.mul_nonneg (by omega) (by omega)
    have m2 : (k : Int) * (b - a) ≤ ((n : Int) - 1) * (b - a) := Int.mul_le_mul_of_nonneg_right (by omega) (by omega)
    have d1 : 0 ≤ d := by
      refine Classical.byContradiction fun hd => ?_
      have := Int.mul_le_mul_of_nonneg_left (show d ≤ -1 by omega) (show 0 ≤ (n : Int) - 1 by omega)
      rw [Int.mul_neg, Int.mul_one] at this
      generalize ((n : Int) - 1) * d = md at *
      generalize (k : Int) * (b - a) = kb at *
      omega
    have d2 : d ≤ b - a := by
      refine Classical.byContradiction fun hd => ?_
      have := Int.mul_le_mul_of_nonneg_left (show b - a + 1 ≤ d by omega) (show 0 ≤ (n : Int) - 1 by omega)
      rw [Int.mul_add, Int.mul_one] at this
      generalize ((n : Int) - 1) * d = md at *
      generalize (k : Int) * (b - a) = kb at *
      generalize ((n : Int) - 1) * (b - a) = nb at *
      omega
    omega
  · have e : (k : Int) * (b - a) = -((k : Int) * (a - b)) := by grind
    rw [e] at h1 h2
    have m1 : 0 ≤ (k : Int) * (a - b) := Int.mul_nonneg (by omega) (by omega)
    have m2 : (k : Int) * (a - b) ≤ ((n : Int) - 1) * (a - b) := Int.mul_le_mul_of_nonneg_right (by omega) (by omega)
    have d1 : d ≤ 0 := by
      refine Classical.byContradiction fun hd => ?_
      have := Int.mul_le_mul_of_nonneg_left (show 1 ≤ d by omega) (show 0 ≤ (n : Int) - 1 by omega)
      rw [Int.mul_one] at this
      generalize ((n : Int) - 1) * d = md at *
      generalize (k : Int) * (a - b) = kb at *
      omega
    have d2 : -(a - b) ≤ d := by
      refine Classical.byContradiction fun hd => ?_
      have := Int.mul_le_mul_of_nonneg_left (show d ≤ -(a - b) - 1 by omega) (show 0 ≤ (n : Int) - 1 by omega)
      rw [Int.mul_sub, Int.mul_neg, Int.mul_one] at this
      generalize ((n : Int) - 1) * d = md at *
      generalize (k : Int) * (a - b) = kb at *
      generalize ((n : Int) - 1) * (a - b) = nb at *
      omega
    omega
theorem plC_zero (a b : Int) {n : Nat} (hn : 2 ≤ n) : plC a b n 0 = a := by
  have h := drV_is (n := ((0 : Nat) : Int) * (b - a)) (m := (n : Int) - 1) (by omega)
  unfold plC
  generalize drV (((0 : Nat) : Int) * (b - a)) ((n : Int) - 1) = d at h ⊢
  have e : ((0 : Nat) : Int) * (b - a) = 0 := by simp
  rw [e] at h
  obtain ⟨h1, h2⟩ := h
  have d1 : d ≤ 0 := by
    refine Classical.byContradiction fun hd => ?_
    have := Int.mul_le_mul_of_nonneg_left (show 1 ≤ d by omega) (show 0 ≤ (n : Int) - 1 by omega)
    omega
  have d2 : 0 ≤ d := by
    refine Classical.byContradiction fun hd => ?_
    have := Int.mul_le_mul_of_nonneg_left (show d ≤ -1 by omega) (show 0 ≤ (n : Int) - 1 by omega)
    omega
  omega
theorem plC_last (a b : Int) {n : Nat} (hn : 2 ≤ n) : plC a b n (n - 1) = b := by
  have h := drV_is (n := ((n - 1 : Nat) : Int) * (b - a)) (m := (n : Int) - 1) (by omega)
  unfold plC
  generalize drV (((n - 1 : Nat) : Int) * (b - a)) ((n : Int) - 1) = d at h ⊢
  have e : ((n - 1 : Nat) : Int) = (n : Int) - 1 := by omega
  rw [e] at h
  obtain ⟨h1, h2⟩ := h
  rw [← Int.mul_sub] at h1 h2
  have d1 : d - (b - a) ≤ 0 := by
    refine Classical.byContradiction fun hd => ?_
    have := Int.mul_le_mul_of_nonneg_left (show 1 ≤ d - (b - a) by omega) (show 0 ≤ (n : Int) - 1 by omega)
    omega
  have d2 : 0 ≤ d - (b - a) := by
    refine Classical.byContradiction fun hd => ?_
    have := Int.mul_le_mul_of_nonneg_left (show d - (b - a) ≤ -1 by omega) (show 0 ≤ (n : Int) - 1 by omega)
    omega
  omega
theorem plC_same (a : Int) {n : Nat} (k : Nat) (hn : 2 ≤ n) : plC a a n k = a := by
  have h := drV_is (n := (k : Int) * (a - a)) (m := (n : Int) - 1) (by omega)
  have e : (k : Int) * (a - a) = ((0 : Nat) : Int) * (a - a) := by simp
  have := plC_zero a a hn
  unfold plC at *
  rw [e]
  exact this
open Classical in
noncomputable def plX (ax ay bx by' : Int) (n : Nat) (k : Nat) : Int := if Befo ax ay bx by' then plC ax bx n k else plC bx ax n (n - 1 - k)
open Classical in
noncomputable def plY (ax ay bx by' : Int) (n : Nat) (k : Nat) : Int := if Befo ax ay bx by' then plC ay by' n k else plC by' ay n (n - 1 - k)
noncomputable def plL (ax ay bx by' : Int) (n : Nat) : List Int := fl (plX ax ay bx by' n) (plY ax ay bx by' n) n
theorem plL_yes {ax ay bx by' : Int} {n : Nat} (h : Befo ax ay bx by') : plL ax ay bx by' n = fl (plC ax bx n) (plC ay by' n) n := fl_ext fun i _ => by unfold plX plY; rw [if_pos h, if_pos h]; exact ⟨rfl, rfl⟩
theorem plL_no {ax ay bx by' : Int} {n : Nat} (h : ¬ Befo ax ay bx by') : plL ax ay bx by' n = fl (fun i => plC bx ax n (n - 1 - i)) (fun i => plC by' ay n (n - 1 - i)) n := fl_ext fun i _ => by unfold plX plY; rw [if_neg h, if_neg h]; exact ⟨rfl, rfl⟩
theorem mul_bd {k : Nat} {d : Int} (hk : k ≤ 65) (h1 : -200000 ≤ d) (h2 : d ≤ 200000) : -13000000 ≤ (k : Int) * d ∧ (k : Int) * d ≤ 13000000 := by
  have a := Int.mul_le_mul_of_nonneg_left h1 (show (0 : Int) ≤ (k : Int) by omega)
  have b := Int.mul_le_mul_of_nonneg_left h2 (show (0 : Int) ≤ (k : Int) by omega)
  omega
theorem den_profilePlaces (ax ay bx by' : Int) (n : Nat) (ha : OkPt ax ay) (hb : OkPt bx by') (hn : 2 ≤ n ∧ n ≤ 65) : Den Try.prog 19 [.agg [.i ax, .i ay], .agg [.i bx, .i by'], .i n] (.lst (mapC AVal.i (plL ax ay bx by' n)) n) := by
  have key : ∀ (ax ay bx by' : Int) (k : Nat), OkPt ax ay → OkPt bx by' → k < n → ((-4000000000000000000 ≤ (k : Int) * (bx - ax) ∧ (k : Int) * (bx - ax) ≤ 4000000000000000000) ∧ -4000000000000000000 ≤ (k : Int) * (by' - ay) ∧ (k : Int) * (by' - ay) ≤ 4000000000000000000) ∧ (IntKind.i64.wrap (bx - ax) = bx - ax ∧ IntKind.i64.wrap (by' - ay) = by' - ay ∧ IntKind.i64.wrap ((k : Int) * (bx - ax)) = (k : Int) * (bx - ax) ∧ IntKind.i64.wrap ((k : Int) * (by' - ay)) = (k : Int) * (by' - ay)) ∧ IntKind.i64.wrap (ax + drV ((k : Int) * (bx - ax)) ((n : Int) - 1)) = plC ax bx n k ∧ IntKind.i64.wrap (ay + drV ((k : Int) * (by' - ay)) ((n : Int) - 1)) = plC ay by' n k := by
    rintro ax ay bx by' k ⟨a1, a2⟩ ⟨b1, b2⟩ hk
    have m1 := @mul_bd k (bx - ax) (by omega) (by omega) (by omega)
    have m2 := @mul_bd k (by' - ay) (by omega) (by omega) (by omega)
    have p1 := plC_in hn.1 hk 200000 a1 b1
    have p2 := plC_in hn.1 hk 200000 a2 b2
    exact ⟨⟨⟨by omega, by omega⟩, by omega, by omega⟩, ⟨wrap64 (by omega) (by omega), wrap64 (by omega) (by omega), wrap64 (by omega) (by omega), wrap64 (by omega) (by omega)⟩, wrap64 (by unfold plC at p1; omega) (by unfold plC at p1; omega), wrap64 (by unfold plC at p2; omega) (by unfold plC at p2; omega)⟩
  have wn : IntKind.i64.wrap ((n : Int) - 1) = (n : Int) - 1 := wrap64 (by omega) (by omega)
  by_cases hB : Befo ax ay bx by'
  · rw [plL_yes hB]
    refine den_of_awpG (ghs [] [65]) Try.func19 rfl (by kernel_rfl) (Nat.le_of_ble_eq_true rfl) (by simp only [treeL, AVal.tree, treeL_i, treeL_ints, treeL_u8, treeL_append, Bool.and_self, Bool.and_true, Bool.true_and]) (by first | rfl | simp only [treeL, AVal.tree, treeL_i, treeL_ints, treeL_u8, treeL_append, Bool.and_self, Bool.and_true, Bool.true_and]) mixed (by kernel_rfl) fun hl => ?_
    simp only [lensL, lens, lensL_i, lensL_mapC, maxI, and_true, true_and] at hl
    rw [Try.ntmps19]
    refine ex_start ?_
    by_cases c1 : ax < bx
    case' pos => simp (config := { maxSteps := 1000000 }) +decide only [NoH, Old, OldL, nilQ, nilA, RechL, ReY, isNew, stepO, XPost, postN, XOk, updN, updU, isEff, avalue, aeff, ASt.eval, ASt.put, ASt.set, ASt.new, Nat.reduceDiv, Nat.reduceAdd, Int.reduceToNat, absV, absC, scalar, alen, acap, conc, flats, live, blkOf, aload, rd, part?, afieldAddr, afield, aindexAddr, cellsOf, afill, places, abuild, optI, asliceV, asliceS, szOk, srcCells, aappend, astore, amakeSlice, abuildSlice, snapL, mapO, treeL, AVal.tree, AVal.flatT, isFlat, ares, isFz, afroz, afrozB, lookupA, lookupH, tops, if_true, if_false, reduceCtorEq, forall_const, ite_true, ite_false, implies_true, walkS, tabS, Try.results19, eq_true c1]
    case' neg =>
      have c2 : ax = bx := by rcases hB with h | h; exact absurd h c1; exact h.1
      have c3 : ay ≤ by' := by rcases hB with h | h; exact absurd h c1; exact h.2
      simp (config := { maxSteps := 1000000 }) +decide only [NoH, Old, OldL, nilQ, nilA, RechL, ReY, isNew, stepO, XPost, postN, XOk, updN, updU, isEff, avalue, aeff, ASt.eval, ASt.put, ASt.set, ASt.new, Nat.reduceDiv, Nat.reduceAdd, Int.reduceToNat, absV, absC, scalar, alen, acap, conc, flats, live, blkOf, aload, rd, part?, afieldAddr, afield, aindexAddr, cellsOf, afill, places, abuild, optI, asliceV, asliceS, szOk, srcCells, aappend, astore, amakeSlice, abuildSlice, snapL, mapO, treeL, AVal.tree, AVal.flatT, isFlat, ares, isFz, afroz, afrozB, lookupA, lookupH, tops, if_true, if_false, reduceCtorEq, forall_const, ite_true, ite_false, implies_true, walkS, tabS, Try.results19, eq_false c1, eq_true c2, eq_true c3]
    all_goals
      refine ex_loop (fun p : {p : Nat × Nat × Nat // p.1 ≤ n} => mkG (ghs [] [65]) [(2, .i n), (3, .ptr 3 0 0), (4, .ptr 4 1 0), (7, .b true), (8, .own 66 p.1.2.1 0 p.1.1), (33, .i n), (34, .i p.1.1)] [(3, ⟨0, 2, [.i ax, .i ay]⟩), (4, ⟨1, 2, [.i bx, .i by']⟩), (66, ⟨p.1.2.1, 2, mapC AVal.i (fl (plC ax bx n) (plC ay by' n) p.1.1)⟩)] p.1.2.2 73) (fun p => n - p.1.1) ⟨(0, 2, 3), Nat.zero_le _⟩ ?_ ?_
      · refine weak_mk rfl (by first | exact Nat.le_refl _ | (simp only [mk_gen]; omega)) ?_ ?_ <;> simp +decide only [w_lookup_nil, w_lookup_cons, ch_ch, ch_lit, lit_ch, wkT, wkH, wkB, WVL, WV_refl', Int.natCast_zero, Int.natCast_add, Int.natCast_one, Nat.sub_self, Nat.sub_zero, List.replicate_zero, List.take_zero, List.nil_append, List.append_nil, fillC_zero, Nat.reduceDiv, Nat.reduceAdd, upd_bk, bk_at, getB_zero, getB_succ, modB_zero, modB_succ, rows_lit, repB_zero, repB_succ, List.length_cons, List.length_nil, upd_upd_same, upd_apply, mk_tmp, mk_heap, mk_gen, lookupA, lookupH, List.getD_cons_zero, List.getD_cons_succ, init_two, tops, Bool.true_and, and_self, and_true, true_and, true_or, if_true, if_false, ite_true, ite_false, reduceCtorEq, reduceIte, fl_zero, mapC_nil]
        exact WV_nl (blk := ⟨2, 2, []⟩) rfl rfl rfl rfl
      rintro ⟨⟨k, g, G⟩, hk⟩
      have hk' : k ≤ n := hk
      have hcl := fl_len (plC ax bx n) (plC ay by' n) k
      by_cases hlt : k < n
      · have hltI : (k : Int) < (n : Int) := by omega
        obtain ⟨⟨b1, b2⟩, ⟨w1, w2, w3, w4⟩, w5, w6⟩ := key ax ay bx by' k ha hb hlt
        have w7 : IntKind.i64.wrap ((k : Int) + 1) = ((k + 1 : Nat) : Int) := wrap64 (by omega) (by omega)
        have h16 : (k + 1) * 16 ≤ 140737488355328 := by omega
        have tk : (fl (plC ax bx n) (plC ay by' n) k).take (k * 2) = fl (plC ax bx n) (plC ay by' n) k := List.take_of_length_le (by omega)
        simp (config := { maxSteps := 1000000 }) +decide only [NoH, Old, OldL, nilQ, nilA, RechL, ReY, isNew, stepO, XPost, postN, XOk, updN, updU, isEff, avalue, aeff, ASt.eval, ASt.put, ASt.set, ASt.new, Nat.reduceDiv, Nat.reduceAdd, Int.reduceToNat, absV, absC, scalar, alen, acap, conc, flats, live, blkOf, aload, rd, part?, afieldAddr, afield, aindexAddr, cellsOf, afill, places, abuild, optI, asliceV, asliceS, szOk, srcCells, aappend, astore, amakeSlice, abuildSlice, snapL, mapO, treeL, AVal.tree, AVal.flatT, isFlat, ares, isFz, afroz, afrozB, lookupA, lookupH, tops, if_true, if_false, reduceCtorEq, forall_const, ite_true, ite_false, implies_true, walkS, tabS, Try.results19, eq_true hltI, w1, w3, wn]
        refine callK (den_divRound ((k : Int) * (bx - ax)) ((n : Int) - 1) (by omega) (by omega) b1.1 b1.2) (by first | exact .inl rfl | exact .inr rfl) ?_
        simp (config := { maxSteps := 1000000 }) +decide only [NoH, Old, OldL, nilQ, nilA, RechL, ReY, isNew, stepO, XPost, postN, XOk, updN, updU, isEff, avalue, aeff, ASt.eval, ASt.put, ASt.set, ASt.new, Nat.reduceDiv, Nat.reduceAdd, Int.reduceToNat, absV, absC, scalar, alen, acap, conc, flats, live, blkOf, aload, rd, part?, afieldAddr, afield, aindexAddr, cellsOf, afill, places, abuild, optI, asliceV, asliceS, szOk, srcCells, aappend, astore, amakeSlice, abuildSlice, snapL, mapO, treeL, AVal.tree, AVal.flatT, isFlat, ares, isFz, afroz, afrozB, lookupA, lookupH, tops, if_true, if_false, reduceCtorEq, forall_const, ite_true, ite_false, implies_true, walkS, tabS, Try.results19, eq_true hltI, w1, w2, w3, w4, w5, wn]
        refine callK (den_divRound ((k : Int) * (by' - ay)) ((n : Int) - 1) (by omega) (by omega) b2.1 b2.2) (by first | exact .inl rfl | exact .inr rfl) ?_
        simp (config := { maxSteps := 1000000 }) +decide only [NoH, Old, OldL, nilQ, nilA, RechL, ReY, isNew, stepO, XPost, postN, XOk, updN, updU, isEff, avalue, aeff, ASt.eval, ASt.put, ASt.set, ASt.new, Nat.reduceDiv, Nat.reduceAdd, Int.reduceToNat, absV, absC, scalar, alen, acap, conc, flats, live, blkOf, aload, rd, part?, afieldAddr, afield, aindexAddr, cellsOf, afill, places, abuild, optI, asliceV, asliceS, szOk, srcCells, aappend, astore, amakeSlice, abuildSlice, snapL, mapO, treeL, AVal.tree, AVal.flatT, isFlat, ares, isFz, afroz, afrozB, lookupA, lookupH, tops, if_true, if_false, reduceCtorEq, forall_const, ite_true, ite_false, implies_true, walkS, tabS, Try.results19, eq_true hltI, w1, w2, w3, w4, w5, w6, w7, wn, h16, tk, hcl, lay_pt, fl_snoc, Nat.zero_mul]
        refine ⟨⟨(k + 1, G, G + 1), hlt⟩, ?_, by show _ - (k + 1) < _ - k; omega⟩
        refine weak_mk rfl (by first | exact Nat.le_refl _ | (simp only [mk_gen]; omega)) ?_ ?_ <;> simp +decide only [w_lookup_nil, w_lookup_cons, ch_ch, ch_lit, lit_ch, wkT, wkH, wkB, WVL, WV_refl', Int.natCast_zero, Int.natCast_add, Int.natCast_one, Nat.sub_self, Nat.sub_zero, List.replicate_zero, List.take_zero, List.nil_append, List.append_nil, fillC_zero, Nat.reduceDiv, Nat.reduceAdd, upd_bk, bk_at, getB_zero, getB_succ, modB_zero, modB_succ, rows_lit, repB_zero, repB_succ, List.length_cons, List.length_nil, upd_upd_same, upd_apply, mk_tmp, mk_heap, mk_gen, lookupA, lookupH, List.getD_cons_zero, List.getD_cons_succ, init_two, tops, Bool.true_and, and_self, and_true, true_and, true_or, if_true, if_false, ite_true, ite_false, reduceCtorEq, reduceIte]
      have e : k = n := by omega
      subst e
      have hltI : ¬ (k : Int) < (k : Int) := by omega
      have ht : (fl (plC ax bx k) (plC ay by' k) k).take (k * 2) = fl (plC ax bx k) (plC ay by' k) k := List.take_of_length_le (by omega)
      simp (config := { maxSteps := 1000000 }) +decide only [NoH, Old, OldL, nilQ, nilA, RechL, ReY, isNew, stepO, XPost, postN, XOk, updN, updU, isEff, avalue, aeff, ASt.eval, ASt.put, ASt.set, ASt.new, Nat.reduceDiv, Nat.reduceAdd, Int.reduceToNat, absV, absC, scalar, alen, acap, conc, flats, live, blkOf, aload, rd, part?, afieldAddr, afield, aindexAddr, cellsOf, afill, places, abuild, optI, asliceV, asliceS, szOk, srcCells, aappend, astore, amakeSlice, abuildSlice, snapL, mapO, treeL, AVal.tree, AVal.flatT, isFlat, ares, isFz, afroz, afrozB, lookupA, lookupH, tops, if_true, if_false, reduceCtorEq, forall_const, ite_true, ite_false, implies_true, walkS, tabS, Try.results19, eq_false hltI, hcl, ht, Nat.zero_mul]
  · rw [plL_no hB]
    refine den_of_awpG (ghs [] [65]) Try.func19 rfl (by kernel_rfl) (Nat.le_of_ble_eq_true rfl) (by simp only [treeL, AVal.tree, treeL_i, treeL_ints, treeL_u8, treeL_append, Bool.and_self, Bool.and_true, Bool.true_and]) (by first | rfl | simp only [treeL, AVal.tree, treeL_i, treeL_ints, treeL_u8, treeL_append, Bool.and_self, Bool.and_true, Bool.true_and]) mixed (by kernel_rfl) fun hl => ?_
    simp only [lensL, lens, lensL_i, lensL_mapC, maxI, and_true, true_and] at hl
    rw [Try.ntmps19]
    refine ex_start ?_
    have c1 : ¬ ax < bx := fun h => hB (.inl h)
    by_cases c2 : ax = bx
    case' pos =>
      have c3 : ¬ ay ≤ by' := fun h => hB (.inr ⟨c2, h⟩)
      simp (config := { maxSteps := 1000000 }) +decide only [NoH, Old, OldL, nilQ, nilA, RechL, ReY, isNew, stepO, XPost, postN, XOk, updN, updU, isEff, avalue, aeff, ASt.eval, ASt.put, ASt.set, ASt.new, Nat.reduceDiv, Nat.reduceAdd, Int.reduceToNat, absV, absC, scalar, alen, acap, conc, flats, live, blkOf, aload, rd, part?, afieldAddr, afield, aindexAddr, cellsOf, afill, places, abuild, optI, asliceV, asliceS, szOk, srcCells, aappend, astore, amakeSlice, abuildSlice, snapL, mapO, treeL, AVal.tree, AVal.flatT, isFlat, ares, isFz, afroz, afrozB, lookupA, lookupH, tops, if_true, if_false, reduceCtorEq, forall_const, ite_true, ite_false, implies_true, walkS, tabS, Try.results19, eq_false c1, eq_true c2, eq_false c3]
    case' neg =>
      simp (config := { maxSteps := 1000000 }) +decide only [NoH, Old, OldL, nilQ, nilA, RechL, ReY, isNew, stepO, XPost, postN, XOk, updN, updU, isEff, avalue, aeff, ASt.eval, ASt.put, ASt.set, ASt.new, Nat.reduceDiv, Nat.reduceAdd, Int.reduceToNat, absV, absC, scalar, alen, acap, conc, flats, live, blkOf, aload, rd, part?, afieldAddr, afield, aindexAddr, cellsOf, afill, places, abuild, optI, asliceV, asliceS, szOk, srcCells, aappend, astore, amakeSlice, abuildSlice, snapL, mapO, treeL, AVal.tree, AVal.flatT, isFlat, ares, isFz, afroz, afrozB, lookupA, lookupH, tops, if_true, if_false, reduceCtorEq, forall_const, ite_true, ite_false, implies_true, walkS, tabS, Try.results19, eq_false c1, eq_false c2]
    all_goals
      refine ex_loop (fun p : {p : Nat × Nat × Nat // p.1 ≤ n} => mkG (ghs [] [65]) [(2, .i n), (3, .ptr 3 0 0), (4, .ptr 4 1 0), (7, .b false), (8, .own 66 p.1.2.1 0 p.1.1), (33, .i n), (34, .i p.1.1)] [(3, ⟨0, 2, [.i bx, .i by']⟩), (4, ⟨1, 2, [.i ax, .i ay]⟩), (66, ⟨p.1.2.1, 2, mapC AVal.i (fl (plC bx ax n) (plC by' ay n) p.1.1)⟩)] p.1.2.2 73) (fun p => n - p.1.1) ⟨(0, 2, 3), Nat.zero_le _⟩ ?_ ?_
      · refine weak_mk rfl (by first | exact Nat.le_refl _ | (simp only [mk_gen]; omega)) ?_ ?_ <;> simp +decide only [w_lookup_nil, w_lookup_cons, ch_ch, ch_lit, lit_ch, wkT, wkH, wkB, WVL, WV_refl', Int.natCast_zero, Int.natCast_add, Int.natCast_one, Nat.sub_self, Nat.sub_zero, List.replicate_zero, List.take_zero, List.nil_append, List.append_nil, fillC_zero, Nat.reduceDiv, Nat.reduceAdd, upd_bk, bk_at, getB_zero, getB_succ, modB_zero, modB_succ, rows_lit, repB_zero, repB_succ, List.length_cons, List.length_nil, upd_upd_same, upd_apply, mk_tmp, mk_heap, mk_gen, lookupA, lookupH, List.getD_cons_zero, List.getD_cons_succ, init_two, tops, Bool.true_and, and_self, and_true, true_and, true_or, if_true, if_false, ite_true, ite_false, reduceCtorEq, reduceIte, fl_zero, mapC_nil]
        exact WV_nl (blk := ⟨2, 2, []⟩) rfl rfl rfl rfl
      rintro ⟨⟨k, g, G⟩, hk⟩
      have hk' : k ≤ n := hk
      have hcl := fl_len (plC bx ax n) (plC by' ay n) k
      by_cases hlt : k < n
      · have hltI : (k : Int) < (n : Int) := by omega
        obtain ⟨⟨b1, b2⟩, ⟨w1, w2, w3, w4⟩, w5, w6⟩ := key bx by' ax ay k hb ha hlt
        have w7 : IntKind.i64.wrap ((k : Int) + 1) = ((k + 1 : Nat) : Int) := wrap64 (by omega) (by omega)
        have h16 : (k + 1) * 16 ≤ 140737488355328 := by omega
        have tk : (fl (plC bx ax n) (plC by' ay n) k).take (k * 2) = fl (plC bx ax n) (plC by' ay n) k := List.take_of_length_le (by omega)
        simp (config := { maxSteps := 1000000 }) +decide only [NoH, Old, OldL, nilQ, nilA, RechL, ReY, isNew, stepO, XPost, postN, XOk, updN, updU, isEff, avalue, aeff, ASt.eval, ASt.put, ASt.set, ASt.new, Nat.reduceDiv, Nat.reduceAdd, Int.reduceToNat, absV, absC, scalar, alen, acap, conc, flats, live, blkOf, aload, rd, part?, afieldAddr, afield, aindexAddr, cellsOf, afill, places, abuild, optI, asliceV, asliceS, szOk, srcCells, aappend, astore, amakeSlice, abuildSlice, snapL, mapO, treeL, AVal.tree, AVal.flatT, isFlat, ares, isFz, afroz, afrozB, lookupA, lookupH, tops, if_true, if_false, reduceCtorEq, forall_const, ite_true, ite_false, implies_true, walkS, tabS, Try.results19, eq_true hltI, w1, w3, wn]
        refine callK (den_divRound ((k : Int) * (ax - bx)) ((n : Int) - 1) (by omega) (by omega) b1.1 b1.2) (by first | exact .inl rfl | exact .inr rfl) ?_
        simp (config := { maxSteps := 1000000 }) +decide only [NoH, Old, OldL, nilQ, nilA, RechL, ReY, isNew, stepO, XPost, postN, XOk, updN, updU, isEff, avalue, aeff, ASt.eval, ASt.put, ASt.set, ASt.new, Nat.reduceDiv, Nat.reduceAdd, Int.reduceToNat, absV, absC, scalar, alen, acap, conc, flats, live, blkOf, aload, rd, part?, afieldAddr, afield, aindexAddr, cellsOf, afill, places, abuild, optI, asliceV, asliceS, szOk, srcCells, aappend, astore, amakeSlice, abuildSlice, snapL, mapO, treeL, AVal.tree, AVal.flatT, isFlat, ares, isFz, afroz, afrozB, lookupA, lookupH, tops, if_true, if_false, reduceCtorEq, forall_const, ite_true, ite_false, implies_true, walkS, tabS, Try.results19, eq_true hltI, w1, w2, w3, w4, w5, wn]
        refine callK (den_divRound ((k : Int) * (ay - by')) ((n : Int) - 1) (by omega) (by omega) b2.1 b2.2) (by first | exact .inl rfl | exact .inr rfl) ?_
        simp (config := { maxSteps := 1000000 }) +decide only [NoH, Old, OldL, nilQ, nilA, RechL, ReY, isNew, stepO, XPost, postN, XOk, updN, updU, isEff, avalue, aeff, ASt.eval, ASt.put, ASt.set, ASt.new, Nat.reduceDiv, Nat.reduceAdd, Int.reduceToNat, absV, absC, scalar, alen, acap, conc, flats, live, blkOf, aload, rd, part?, afieldAddr, afield, aindexAddr, cellsOf, afill, places, abuild, optI, asliceV, asliceS, szOk, srcCells, aappend, astore, amakeSlice, abuildSlice, snapL, mapO, treeL, AVal.tree, AVal.flatT, isFlat, ares, isFz, afroz, afrozB, lookupA, lookupH, tops, if_true, if_false, reduceCtorEq, forall_const, ite_true, ite_false, implies_true, walkS, tabS, Try.results19, eq_true hltI, w1, w2, w3, w4, w5, w6, w7, wn, h16, tk, hcl, lay_pt, fl_snoc, Nat.zero_mul]
        refine ⟨⟨(k + 1, G, G + 1), hlt⟩, ?_, by show _ - (k + 1) < _ - k; omega⟩
        refine weak_mk rfl (by first | exact Nat.le_refl _ | (simp only [mk_gen]; omega)) ?_ ?_ <;> simp +decide only [w_lookup_nil, w_lookup_cons, ch_ch, ch_lit, lit_ch, wkT, wkH, wkB, WVL, WV_refl', Int.natCast_zero, Int.natCast_add, Int.natCast_one, Nat.sub_self, Nat.sub_zero, List.replicate_zero, List.take_zero, List.nil_append, List.append_nil, fillC_zero, Nat.reduceDiv, Nat.reduceAdd, upd_bk, bk_at, getB_zero, getB_succ, modB_zero, modB_succ, rows_lit, repB_zero, repB_succ, List.length_cons, List.length_nil, upd_upd_same, upd_apply, mk_tmp, mk_heap, mk_gen, lookupA, lookupH, List.getD_cons_zero, List.getD_cons_succ, init_two, tops, Bool.true_and, and_self, and_true, true_and, true_or, if_true, if_false, ite_true, ite_false, reduceCtorEq, reduceIte]
      have e : k = n := by omega
      subst e
      have hltI : ¬ (k : Int) < (k : Int) := by omega
      simp (config := { maxSteps := 1000000 }) +decide only [NoH, Old, OldL, nilQ, nilA, RechL, ReY, isNew, stepO, XPost, postN, XOk, updN, updU, isEff, avalue, aeff, ASt.eval, ASt.put, ASt.set, ASt.new, Nat.reduceDiv, Nat.reduceAdd, Int.reduceToNat, absV, absC, scalar, alen, acap, conc, flats, live, blkOf, aload, rd, part?, afieldAddr, afield, aindexAddr, cellsOf, afill, places, abuild, optI, asliceV, asliceS, szOk, srcCells, aappend, astore, amakeSlice, abuildSlice, snapL, mapO, treeL, AVal.tree, AVal.flatT, isFlat, ares, isFz, afroz, afrozB, lookupA, lookupH, tops, if_true, if_false, reduceCtorEq, forall_const, ite_true, ite_false, implies_true, walkS, tabS, Try.results19, eq_false hltI, hcl]
      have ht0 : (fl (plC bx ax k) (plC by' ay k) k).take (k * 2) = fl (plC bx ax k) (plC by' ay k) k := List.take_of_length_le (by omega)
      refine callX (denx_reverseP (plC bx ax k) (plC by' ay k) k (by omega)) (by simp (config := { maxSteps := 1000000 }) +decide only [NoH, Old, OldL, nilQ, nilA, RechL, ReY, isNew, stepO, XPost, postN, XOk, updN, updU, isEff, avalue, aeff, ASt.eval, ASt.put, ASt.set, ASt.new, Nat.reduceDiv, Nat.reduceAdd, Int.reduceToNat, absV, absC, scalar, alen, acap, conc, flats, live, blkOf, aload, rd, part?, afieldAddr, afield, aindexAddr, cellsOf, afill, places, abuild, optI, asliceV, asliceS, szOk, srcCells, aappend, astore, amakeSlice, abuildSlice, snapL, mapO, treeL, AVal.tree, AVal.flatT, isFlat, ares, isFz, afroz, afrozB, lookupA, lookupH, tops, if_true, if_false, reduceCtorEq, forall_const, ite_true, ite_false, implies_true, walkS, tabS, Try.results19, hcl, ht0, Nat.zero_mul]) ?_
      have hcr := fl_len (fun i => plC bx ax k (k - 1 - i)) (fun i => plC by' ay k (k - 1 - i)) k
      have ht : (fl (fun i => plC bx ax k (k - 1 - i)) (fun i => plC by' ay k (k - 1 - i)) k).take (k * 2) = fl (fun i => plC bx ax k (k - 1 - i)) (fun i => plC by' ay k (k - 1 - i)) k := List.take_of_length_le (by omega)
      simp (config := { maxSteps := 1000000 }) +decide only [NoH, Old, OldL, nilQ, nilA, RechL, ReY, isNew, stepO, XPost, postN, XOk, updN, updU, isEff, avalue, aeff, ASt.eval, ASt.put, ASt.set, ASt.new, Nat.reduceDiv, Nat.reduceAdd, Int.reduceToNat, absV, absC, scalar, alen, acap, conc, flats, live, blkOf, aload, rd, part?, afieldAddr, afield, aindexAddr, cellsOf, afill, places, abuild, optI, asliceV, asliceS, szOk, srcCells, aappend, astore, amakeSlice, abuildSlice, snapL, mapO, treeL, AVal.tree, AVal.flatT, isFlat, ares, isFz, afroz, afrozB, lookupA, lookupH, tops, if_true, if_false, reduceCtorEq, forall_const, ite_true, ite_false, implies_true, walkS, tabS, Try.results19, hcr, ht, Nat.zero_mul]
end Go.Proofs.Ytngghngfgpiomaa
