/-
  OWN WORK: sums of powers.
-/
import Derived.Test.YtiaemddmkmfijaaGreatDoorDbG
import Derived.Test.YtiaemddmkmfijaaGreatDoorLibA
namespace Go.Proofs.YtiaemddmkmfijaaGreatDoor
open Go Go.Own Go.Proofs
set_option maxHeartbeats 4000000
set_option maxRecDepth 20000
set_option linter.unusedSimpArgs false
set_option linter.unusedVariables false
theorem lgI_9 : lgI 1000000000 = 90000 := by decide +kernel
theorem lgI_9m : lgI 999999999 = 89999 := by decide +kernel
theorem pw_9 : pw 90000 = 1000000000 := (pw_unique (k := 1000000000) ⟨by decide, fun n h1 h2 => by
  have := lgI_mono h1 (show n ≤ 999999999 by omega)
  rw [lgI_9m] at this
  omega, .inr (by rw [lgI_9]; decide)⟩).symm
/-- the part of a level that is at most 0 -/
noncomputable def prt (v : Int) : Int := if v < -90000 then 0 else pw (90000 + v)
theorem prt_in {v : Int} (h : v ≤ 0) : 0 ≤ prt v ∧ prt v ≤ 1000000000 := by
  unfold prt
  split
  · omega
  · have a := (pw_is (90000 + v)).1
    have b := pw_mono (v := 90000 + v) (w := 90000) (by omega)
    rw [pw_9] at b
    omega
theorem prt_0 : prt 0 = 1000000000 := by
  unfold prt
  rw [if_neg (by omega)]
  exact pw_9
theorem prt_mono {v w : Int} (h : v ≤ w) : prt v ≤ prt w := by
  unfold prt
  have a := (pw_is (90000 + w)).1
  have b := pw_mono (v := 90000 + v) (w := 90000 + w) (by omega)
  split
  · split <;> omega
  · rw [if_neg (by omega)]
    exact b
noncomputable def prS (m : Int) : List Int → Int
  | [] => 0
  | x :: xs => prt (x - m) + prS m xs
theorem prS_app (m : Int) : ∀ (xs ys : List Int), prS m (xs ++ ys) = prS m xs + prS m ys
  | [], ys => by simp [prS]
  | x :: xs, ys => by
    simp only [List.cons_append, prS]
    rw [prS_app m xs ys]
    omega
theorem prS_in {m : Int} : ∀ {xs : List Int}, (∀ x ∈ xs, x ≤ m) → 0 ≤ prS m xs ∧ prS m xs ≤ 1000000000 * xs.length
  | [], _ => by simp [prS]
  | x :: xs, h => by
    have a := prS_in (xs := xs) fun y hy => h y (List.mem_cons_of_mem _ hy)
    have b := prt_in (v := x - m) (by have := h x (by simp); omega)
    simp only [prS, List.length_cons]
    omega
theorem prS_mem {m : Int} : ∀ {xs : List Int}, (∀ x ∈ xs, x ≤ m) → m ∈ xs → 1000000000 ≤ prS m xs
  | [], _, h => by simp at h
  | x :: xs, h, hm => by
    have a := prS_in (xs := xs) fun y hy => h y (List.mem_cons_of_mem _ hy)
    have b := prt_in (v := x - m) (by have := h x (by simp); omega)
    simp only [prS]
    rcases List.mem_cons.1 hm with e | e
    · rw [← e, Int.sub_self, prt_0]
      omega
    · have := prS_mem (xs := xs) (fun y hy => h y (List.mem_cons_of_mem _ hy)) e
      omega
theorem den_partOf (v : Int) (hv : -1000000 ≤ v ∧ v ≤ 0) : Den Tryz.prog 133 [.i v] (.i (prt v)) := by
  refine den_of_awp Tryz.func133 rfl (by kernel_rfl) (Nat.le_of_ble_eq_true rfl) (by simp only [treeL, AVal.tree, treeL_i, treeL_ints, treeL_u8, treeL_append, Bool.and_self, Bool.and_true, Bool.true_and]) (by first | rfl | simp only [treeL, AVal.tree, treeL_i, treeL_ints, treeL_u8, treeL_append, Bool.and_self, Bool.and_true, Bool.true_and]) mixed (by kernel_rfl) fun hl => ?_
  simp only [lensL, lens, lensL_i, lensL_mapC, maxI, and_true, true_and] at hl
  rw [Tryz.ntmps133]
  refine ex_start ?_
  have w1 : IntKind.i64.wrap (90000 + v) = 90000 + v := wrap64 (by omega) (by omega)
  unfold prt
  by_cases c : v < -90000
  · simp (config := { maxSteps := 1000000 }) +decide only [NoH, Old, OldL, nilQ, nilA, asgn, nz, RechL, ReY, isNew, stepO, XPost, postN, XOk, updN, updU, isEff, avalue, aeff, ASt.eval, ASt.put, ASt.set, ASt.new, Nat.reduceDiv, Nat.reduceAdd, Int.reduceToNat, absV, absC, scalar, alen, acap, conc, flats, live, blkOf, aload, rd, part?, afieldAddr, afield, aindexAddr, cellsOf, afill, places, abuild, optI, asliceV, asliceS, szOk, srcCells, aappend, acopy, astore, amakeSlice, abuildSlice, snapL, mapO, treeL, AVal.tree, AVal.flatT, isFlat, ares, isFz, afroz, afrozB, lookupA, lookupH, tops, if_true, if_false, reduceCtorEq, forall_const, ite_true, ite_false, implies_true, walkS, tabS, Tryz.results133, eq_true c]
  · simp (config := { maxSteps := 1000000 }) +decide only [NoH, Old, OldL, nilQ, nilA, asgn, nz, RechL, ReY, isNew, stepO, XPost, postN, XOk, updN, updU, isEff, avalue, aeff, ASt.eval, ASt.put, ASt.set, ASt.new, Nat.reduceDiv, Nat.reduceAdd, Int.reduceToNat, absV, absC, scalar, alen, acap, conc, flats, live, blkOf, aload, rd, part?, afieldAddr, afield, aindexAddr, cellsOf, afill, places, abuild, optI, asliceV, asliceS, szOk, srcCells, aappend, acopy, astore, amakeSlice, abuildSlice, snapL, mapO, treeL, AVal.tree, AVal.flatT, isFlat, ares, isFz, afroz, afrozB, lookupA, lookupH, tops, if_true, if_false, reduceCtorEq, forall_const, ite_true, ite_false, implies_true, walkS, tabS, Tryz.results133, eq_false c, w1]
    refine callK (den_PowDb (90000 + v) (by omega)) (by first | exact .inl rfl | exact .inr rfl) ?_
    simp (config := { maxSteps := 1000000 }) +decide only [NoH, Old, OldL, nilQ, nilA, asgn, nz, RechL, ReY, isNew, stepO, XPost, postN, XOk, updN, updU, isEff, avalue, aeff, ASt.eval, ASt.put, ASt.set, ASt.new, Nat.reduceDiv, Nat.reduceAdd, Int.reduceToNat, absV, absC, scalar, alen, acap, conc, flats, live, blkOf, aload, rd, part?, afieldAddr, afield, aindexAddr, cellsOf, afill, places, abuild, optI, asliceV, asliceS, szOk, srcCells, aappend, acopy, astore, amakeSlice, abuildSlice, snapL, mapO, treeL, AVal.tree, AVal.flatT, isFlat, ares, isFz, afroz, afrozB, lookupA, lookupH, tops, if_true, if_false, reduceCtorEq, forall_const, ite_true, ite_false, implies_true, walkS, tabS, Tryz.results133]
/-- the level of a sum -/
noncomputable def smV (m : Int) (xs : List Int) : Int := m - 90000 + lgI (prS m xs)
theorem mostOf_is {xs : List Int} {m : Int} (h : 0 < xs.length) (hm : m ∈ xs) (hx : ∀ x ∈ xs, x ≤ m) : mostOf xs[0] xs = m := by
  have a := (mostOf_ge xs xs[0]).2 m hm
  rcases mostOf_in xs xs[0] with e | e
  · have := hx _ (List.getElem_mem h)
    omega
  · have := hx _ e
    omega
theorem lgI_big {x : Int} (h : 1 ≤ x) (h2 : x ≤ 1000000000000000000) : 0 ≤ lgI x ∧ lgI x < 190000 := by
  have := lgd_le (n := x.toNat) (k := 19) (by omega) (by omega)
  unfold lgI
  omega
theorem den_sumDb (xs : List Int) (m : Int) (hl : xs.length ≤ 100) (hm : m ∈ xs) (hx : ∀ x ∈ xs, x ≤ m) (hx2 : ∀ x ∈ xs, -400000 ≤ x ∧ x ≤ 400000) : Den Tryz.prog 92 [ints xs] (.i (smV m xs)) := by
  refine den_of_awp Tryz.func92 rfl (by kernel_rfl) (Nat.le_of_ble_eq_true rfl) (by simp only [treeL, AVal.tree, treeL_i, treeL_ints, treeL_u8, treeL_append, Bool.and_self, Bool.and_true, Bool.true_and]) (by first | rfl | simp only [treeL, AVal.tree, treeL_i, treeL_ints, treeL_u8, treeL_append, Bool.and_self, Bool.and_true, Bool.true_and]) mixed (by kernel_rfl) fun hl => ?_
  simp only [lensL, lens, lensL_i, lensL_mapC, maxI, and_true, true_and] at hl
  rw [Tryz.ntmps92]
  refine ex_start ?_
  have h0 : 0 < xs.length := List.length_pos_of_mem hm
  have hm2 := hx2 m hm
  have ps := prS_mem hx hm
  have pi := prS_in hx
  have pm : ∀ k, 0 ≤ prS m (xs.take k) ∧ prS m (xs.take k) ≤ 1000000000 * 100 := fun k => by
    have := prS_in (m := m) (xs := xs.take k) fun x h => hx x (List.mem_of_mem_take h)
    have h2 : (xs.take k).length ≤ 100 := by simp; omega
    omega
  simp (config := { maxSteps := 1000000 }) +decide only [NoH, Old, OldL, nilQ, nilA, asgn, nz, RechL, ReY, isNew, stepO, XPost, postN, XOk, updN, updU, isEff, avalue, aeff, ASt.eval, ASt.put, ASt.set, ASt.new, Nat.reduceDiv, Nat.reduceAdd, Int.reduceToNat, absV, absC, scalar, alen, acap, conc, flats, live, blkOf, aload, rd, part?, afieldAddr, afield, aindexAddr, cellsOf, afill, places, abuild, optI, asliceV, asliceS, szOk, srcCells, aappend, acopy, astore, amakeSlice, abuildSlice, snapL, mapO, treeL, AVal.tree, AVal.flatT, isFlat, ares, isFz, afroz, afrozB, lookupA, lookupH, tops, if_true, if_false, reduceCtorEq, forall_const, ite_true, ite_false, implies_true, walkS, tabS, Tryz.results92]
  refine callK (den_Max xs h0) (by first | exact .inl rfl | exact .inr rfl) ?_
  simp (config := { maxSteps := 1000000 }) +decide only [NoH, Old, OldL, nilQ, nilA, asgn, nz, RechL, ReY, isNew, stepO, XPost, postN, XOk, updN, updU, isEff, avalue, aeff, ASt.eval, ASt.put, ASt.set, ASt.new, Nat.reduceDiv, Nat.reduceAdd, Int.reduceToNat, absV, absC, scalar, alen, acap, conc, flats, live, blkOf, aload, rd, part?, afieldAddr, afield, aindexAddr, cellsOf, afill, places, abuild, optI, asliceV, asliceS, szOk, srcCells, aappend, acopy, astore, amakeSlice, abuildSlice, snapL, mapO, treeL, AVal.tree, AVal.flatT, isFlat, ares, isFz, afroz, afrozB, lookupA, lookupH, tops, if_true, if_false, reduceCtorEq, forall_const, ite_true, ite_false, implies_true, walkS, tabS, Tryz.results92, mostOf_is h0 hm hx]
  refine ex_loop (fun k : {k : Nat // k ≤ xs.length} => mk [(3, .i m), (4, .i (prS m (xs.take k.1))), (9, ints xs), (10, .i xs.length), (11, .i k.1)] [] 0 27) (fun k => xs.length - k) ⟨0, Nat.zero_le _⟩ ?_ ?_
  · refine weak_mk rfl (by first | exact Nat.le_refl _ | (simp only [mk_gen]; omega)) ?_ ?_ <;> simp +decide only [w_lookup_nil, w_lookup_cons, ch_ch, ch_lit, lit_ch, wkT, wkH, wkB, WVL, WV_refl', Int.natCast_zero, Int.natCast_add, Int.natCast_one, Nat.sub_self, Nat.sub_zero, List.replicate_zero, List.take_zero, List.nil_append, List.append_nil, fillC_zero, Nat.reduceDiv, Nat.reduceAdd, upd_bk, bk_at, getB_zero, getB_succ, modB_zero, modB_succ, rows_lit, repB_zero, repB_succ, List.length_cons, List.length_nil, upd_upd_same, upd_apply, mk_tmp, mk_heap, mk_gen, lookupA, lookupH, List.getD_cons_zero, List.getD_cons_succ, init_two, tops, Bool.true_and, and_self, and_true, true_and, true_or, if_true, if_false, ite_true, ite_false, reduceCtorEq, reduceIte, List.take_zero, prS]
  rintro ⟨k, hk⟩
  have hk' : k ≤ xs.length := hk
  by_cases hlt : k < xs.length
  · have hw : IntKind.i64.wrap ((k : Int) + 1) = ((k + 1 : Nat) : Int) := wrap64 (by omega) (by omega)
    have b1 := hx _ (List.getElem_mem hlt)
    have b2 := hx2 _ (List.getElem_mem hlt)
    have b3 := prt_in (v := xs[k] - m) (by omega)
    have b4 := pm k
    have w1 : IntKind.i64.wrap (xs[k] - m) = xs[k] - m := wrap64 (by omega) (by omega)
    have w2 : IntKind.i64.wrap (prS m (xs.take k) + prt (xs[k] - m)) = prS m (xs.take k) + prt (xs[k] - m) := wrap64 (by omega) (by omega)
    have e1 : prS m (xs.take (k + 1)) = prS m (xs.take k) + prt (xs[k] - m) := by
      rw [List.take_succ_eq_append_getElem hlt, prS_app]
      simp [prS]
    simp (config := { maxSteps := 1000000 }) +decide only [NoH, Old, OldL, nilQ, nilA, asgn, nz, RechL, ReY, isNew, stepO, XPost, postN, XOk, updN, updU, isEff, avalue, aeff, ASt.eval, ASt.put, ASt.set, ASt.new, Nat.reduceDiv, Nat.reduceAdd, Int.reduceToNat, absV, absC, scalar, alen, acap, conc, flats, live, blkOf, aload, rd, part?, afieldAddr, afield, aindexAddr, cellsOf, afill, places, abuild, optI, asliceV, asliceS, szOk, srcCells, aappend, acopy, astore, amakeSlice, abuildSlice, snapL, mapO, treeL, AVal.tree, AVal.flatT, isFlat, ares, isFz, afroz, afrozB, lookupA, lookupH, tops, if_true, if_false, reduceCtorEq, forall_const, ite_true, ite_false, implies_true, walkS, tabS, Tryz.results92, hlt, hw, w1]
    refine callK (den_partOf (xs[k] - m) (by omega)) (by first | exact .inl rfl | exact .inr rfl) ?_
    simp (config := { maxSteps := 1000000 }) +decide only [NoH, Old, OldL, nilQ, nilA, asgn, nz, RechL, ReY, isNew, stepO, XPost, postN, XOk, updN, updU, isEff, avalue, aeff, ASt.eval, ASt.put, ASt.set, ASt.new, Nat.reduceDiv, Nat.reduceAdd, Int.reduceToNat, absV, absC, scalar, alen, acap, conc, flats, live, blkOf, aload, rd, part?, afieldAddr, afield, aindexAddr, cellsOf, afill, places, abuild, optI, asliceV, asliceS, szOk, srcCells, aappend, acopy, astore, amakeSlice, abuildSlice, snapL, mapO, treeL, AVal.tree, AVal.flatT, isFlat, ares, isFz, afroz, afrozB, lookupA, lookupH, tops, if_true, if_false, reduceCtorEq, forall_const, ite_true, ite_false, implies_true, walkS, tabS, Tryz.results92, w2, hw]
    refine ⟨⟨k + 1, hlt⟩, ?_, by show _ - (k + 1) < _ - k; omega⟩
    refine weak_mk rfl (by first | exact Nat.le_refl _ | (simp only [mk_gen]; omega)) ?_ ?_ <;> simp +decide only [w_lookup_nil, w_lookup_cons, ch_ch, ch_lit, lit_ch, wkT, wkH, wkB, WVL, WV_refl', Int.natCast_zero, Int.natCast_add, Int.natCast_one, Nat.sub_self, Nat.sub_zero, List.replicate_zero, List.take_zero, List.nil_append, List.append_nil, fillC_zero, Nat.reduceDiv, Nat.reduceAdd, upd_bk, bk_at, getB_zero, getB_succ, modB_zero, modB_succ, rows_lit, repB_zero, repB_succ, List.length_cons, List.length_nil, upd_upd_same, upd_apply, mk_tmp, mk_heap, mk_gen, lookupA, lookupH, List.getD_cons_zero, List.getD_cons_succ, init_two, tops, Bool.true_and, and_self, and_true, true_and, true_or, if_true, if_false, ite_true, ite_false, reduceCtorEq, reduceIte, e1]
  have e : k = xs.length := by omega
  subst e
  have hN : ¬ (xs.length : Int) < (xs.length : Int) := by omega
  have pl := lgI_big (x := prS m xs) (by omega) (by omega)
  have w3 : IntKind.i64.wrap (m - 90000) = m - 90000 := wrap64 (by omega) (by omega)
  have w4 : IntKind.i64.wrap (m - 90000 + lgI (prS m xs)) = m - 90000 + lgI (prS m xs) := wrap64 (by omega) (by omega)
  simp (config := { maxSteps := 1000000 }) +decide only [NoH, Old, OldL, nilQ, nilA, asgn, nz, RechL, ReY, isNew, stepO, XPost, postN, XOk, updN, updU, isEff, avalue, aeff, ASt.eval, ASt.put, ASt.set, ASt.new, Nat.reduceDiv, Nat.reduceAdd, Int.reduceToNat, absV, absC, scalar, alen, acap, conc, flats, live, blkOf, aload, rd, part?, afieldAddr, afield, aindexAddr, cellsOf, afill, places, abuild, optI, asliceV, asliceS, szOk, srcCells, aappend, acopy, astore, amakeSlice, abuildSlice, snapL, mapO, treeL, AVal.tree, AVal.flatT, isFlat, ares, isFz, afroz, afrozB, lookupA, lookupH, tops, if_true, if_false, reduceCtorEq, forall_const, ite_true, ite_false, implies_true, walkS, tabS, Tryz.results92, hN, List.take_length]
  refine callK (den_LogDbI (prS m xs) (by omega) (by omega)) (by first | exact .inl rfl | exact .inr rfl) ?_
  simp (config := { maxSteps := 1000000 }) +decide only [NoH, Old, OldL, nilQ, nilA, asgn, nz, RechL, ReY, isNew, stepO, XPost, postN, XOk, updN, updU, isEff, avalue, aeff, ASt.eval, ASt.put, ASt.set, ASt.new, Nat.reduceDiv, Nat.reduceAdd, Int.reduceToNat, absV, absC, scalar, alen, acap, conc, flats, live, blkOf, aload, rd, part?, afieldAddr, afield, aindexAddr, cellsOf, afill, places, abuild, optI, asliceV, asliceS, szOk, srcCells, aappend, acopy, astore, amakeSlice, abuildSlice, snapL, mapO, treeL, AVal.tree, AVal.flatT, isFlat, ares, isFz, afroz, afrozB, lookupA, lookupH, tops, if_true, if_false, reduceCtorEq, forall_const, ite_true, ite_false, implies_true, walkS, tabS, Tryz.results92, w3, w4, smV]
theorem smV_ge {m : Int} {xs : List Int} (hm : m ∈ xs) (hx : ∀ x ∈ xs, x ≤ m) : m ≤ smV m xs := by
  have a := prS_mem hx hm
  have b := lgI_mono (x := 1000000000) (y := prS m xs) (by omega) a
  rw [lgI_9] at b
  unfold smV
  omega
theorem smV_le {m : Int} {xs : List Int} (hl : xs.length ≤ 100) (hm : m ∈ xs) (hx : ∀ x ∈ xs, x ≤ m) : smV m xs < m + 100000 := by
  have a := prS_mem hx hm
  have b := prS_in hx
  have c := lgI_big (x := prS m xs) (by omega) (by omega)
  unfold smV
  omega
end Go.Proofs.YtiaemddmkmfijaaGreatDoor
