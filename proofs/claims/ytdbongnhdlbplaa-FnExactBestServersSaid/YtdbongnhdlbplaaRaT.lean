/-
  OWN WORK: the best servers; the reference's side.
-/
import Derived.Test.YtdbongnhdlbplaaRaS
namespace Go.Proofs.Ytdbongnhdlbplaa
open Go Go.Own Go.Proofs
set_option maxHeartbeats 4000000
set_option maxRecDepth 20000
set_option linter.unusedSimpArgs false
noncomputable def bsK (xss : List (List Int)) (least : Int) (n : Nat) : Nat → List Int × List Int
  | 0 => (List.replicate n (-1), List.replicate n (-300000))
  | k + 1 => (adS (bsK xss least n k).1 (bsK xss least n k).2 (xss.getD k []) k least n, adL (bsK xss least n k).1 (bsK xss least n k).2 (xss.getD k []) least n)
theorem bsK_length (xss : List (List Int)) (least : Int) (n : Nat) : ∀ k, (bsK xss least n k).1.length = n ∧ (bsK xss least n k).2.length = n
  | 0 => by simp [bsK]
  | k + 1 => by
    have ih := bsK_length xss least n k
    simp only [bsK, adS, adL, upK_length]
    exact ih
def BsOk (s w h : Int) (_ : List (List Int)) (least : Int) : Prop := Sized s w h ∧ LevOk least
def BsRows (w h : Int) (xss : List (List Int)) : Prop := xss.length ≤ 24 ∧ ∀ x ∈ xss, (x.length : Int) = w * h ∧ ∀ y ∈ x, LevOk y
noncomputable def bsR (s w h : Int) (xss : List (List Int)) (least : Int) : Rst := if bp (BsOk s w h xss least ∧ BsRows w h xss) then ⟨s, w, h, (bsK xss least (w * h).toNat xss.length).1, (bsK xss least (w * h).toNat xss.length).2⟩ else r0
noncomputable def bsC (s w h : Int) (xss : List (List Int)) (least : Int) : Int := if bp (BsOk s w h xss least) then (if bp (BsRows w h xss) then 0 else 6) else 2
section
variable {s w h : Int} {xss : List (List Int)} {least : Int}
theorem bs_no (h1 : ¬ BsOk s w h xss least) : bsR s w h xss least = r0 ∧ bsC s w h xss least = 2 := by
  unfold bsR bsC
  rw [if_neg (by rw [bp_true]; exact fun h => h1 h.1), if_neg (by rw [bp_true]; exact h1)]
  exact ⟨rfl, rfl⟩
theorem bs_st (h1 : BsOk s w h xss least) (h2 : ¬ BsRows w h xss) : bsR s w h xss least = r0 ∧ bsC s w h xss least = 6 := by
  unfold bsR bsC
  rw [if_neg (by rw [bp_true]; exact fun h => h2 h.2), if_pos (by rw [bp_true]; exact h1), if_neg (by rw [bp_true]; exact h2)]
  exact ⟨rfl, rfl⟩
theorem bs_yes (h1 : BsOk s w h xss least) (h2 : BsRows w h xss) : bsR s w h xss least = ⟨s, w, h, (bsK xss least (w * h).toNat xss.length).1, (bsK xss least (w * h).toNat xss.length).2⟩ ∧ bsC s w h xss least = 0 := by
  unfold bsR bsC
  rw [if_pos (by rw [bp_true]; exact ⟨h1, h2⟩), if_pos (by rw [bp_true]; exact h1), if_pos (by rw [bp_true]; exact h2)]
  exact ⟨rfl, rfl⟩
end
theorem den_specBestServers (s w h : Int) (xss : List (List Int)) (least : Int) : Den Try.prog 45 [.i s, .i w, .i h, intss xss, .i least] (.tup [rstV (bsR s w h xss least), .i (bsC s w h xss least)]) := by
  refine den_of_awp Try.func45 rfl (by kernel_rfl) (Nat.le_of_ble_eq_true rfl) (by simp only [treeL, AVal.tree, treeL_i, treeL_ints, treeL_append, Bool.and_self, Bool.and_true, Bool.true_and]) (by first | rfl | simp only [treeL, AVal.tree, treeL_i, treeL_ints, treeL_append, Bool.and_self, Bool.and_true, Bool.true_and]) mixed (by kernel_rfl) fun hl => ?_
  simp only [lensL, lens, lensL_i, lensL_mapC, maxI, and_true, true_and] at hl
  rw [Try.ntmps45]
  refine ex_start ?_
  by_cases c1 : Sized s w h
  case neg =>
    obtain ⟨e1, e2⟩ := bs_no (fun hh : BsOk s w h xss least => c1 hh.1)
    rw [e1, e2]
    simp (config := {decide := true, maxSteps := 1000000}) only [NoH, Old, OldL, nilQ, nilA, RechL, ReY, isNew, stepO, XPost, postN, XOk, updN, updU, isEff, avalue, aeff, ASt.eval, ASt.put, ASt.set, ASt.new, Nat.reduceDiv, Nat.reduceAdd, Int.reduceToNat, absV, absC, scalar, alen, acap, conc, flats, live, blkOf, aload, rd, part?, afieldAddr, afield, aindexAddr, cellsOf, afill, places, abuild, optI, asliceV, asliceS, szOk, srcCells, aappend, astore, amakeSlice, abuildSlice, snapL, mapO, treeL, AVal.tree, AVal.flatT, isFlat, ares, isFz, afroz, afrozB, lookupA, lookupH, tops, if_true, if_false, reduceCtorEq, forall_const, ite_true, ite_false, implies_true, walkS, tabS, Try.results45]
    refine callK (den_l04Size s w h) (by first | exact .inl rfl | exact .inr rfl) ?_
    simp (config := {decide := true, maxSteps := 1000000}) only [NoH, Old, OldL, nilQ, nilA, RechL, ReY, isNew, stepO, XPost, postN, XOk, updN, updU, isEff, avalue, aeff, ASt.eval, ASt.put, ASt.set, ASt.new, Nat.reduceDiv, Nat.reduceAdd, Int.reduceToNat, absV, absC, scalar, alen, acap, conc, flats, live, blkOf, aload, rd, part?, afieldAddr, afield, aindexAddr, cellsOf, afill, places, abuild, optI, asliceV, asliceS, szOk, srcCells, aappend, astore, amakeSlice, abuildSlice, snapL, mapO, treeL, AVal.tree, AVal.flatT, isFlat, ares, isFz, afroz, afrozB, lookupA, lookupH, tops, if_true, if_false, reduceCtorEq, forall_const, ite_true, ite_false, implies_true, walkS, tabS, Try.results45, eq_false c1, r0, mapC_nil]
    rfl
  simp (config := {decide := true, maxSteps := 1000000}) only [NoH, Old, OldL, nilQ, nilA, RechL, ReY, isNew, stepO, XPost, postN, XOk, updN, updU, isEff, avalue, aeff, ASt.eval, ASt.put, ASt.set, ASt.new, Nat.reduceDiv, Nat.reduceAdd, Int.reduceToNat, absV, absC, scalar, alen, acap, conc, flats, live, blkOf, aload, rd, part?, afieldAddr, afield, aindexAddr, cellsOf, afill, places, abuild, optI, asliceV, asliceS, szOk, srcCells, aappend, astore, amakeSlice, abuildSlice, snapL, mapO, treeL, AVal.tree, AVal.flatT, isFlat, ares, isFz, afroz, afrozB, lookupA, lookupH, tops, if_true, if_false, reduceCtorEq, forall_const, ite_true, ite_false, implies_true, walkS, tabS, Try.results45]
  refine callK (den_l04Size s w h) (by first | exact .inl rfl | exact .inr rfl) ?_
  simp (config := {decide := true, maxSteps := 1000000}) only [NoH, Old, OldL, nilQ, nilA, RechL, ReY, isNew, stepO, XPost, postN, XOk, updN, updU, isEff, avalue, aeff, ASt.eval, ASt.put, ASt.set, ASt.new, Nat.reduceDiv, Nat.reduceAdd, Int.reduceToNat, absV, absC, scalar, alen, acap, conc, flats, live, blkOf, aload, rd, part?, afieldAddr, afield, aindexAddr, cellsOf, afill, places, abuild, optI, asliceV, asliceS, szOk, srcCells, aappend, astore, amakeSlice, abuildSlice, snapL, mapO, treeL, AVal.tree, AVal.flatT, isFlat, ares, isFz, afroz, afrozB, lookupA, lookupH, tops, if_true, if_false, reduceCtorEq, forall_const, ite_true, ite_false, implies_true, walkS, tabS, Try.results45, eq_true c1]
  refine callK (den_l02Level least) (by first | exact .inl rfl | exact .inr rfl) ?_
  by_cases c2 : LevOk least
  case neg =>
    obtain ⟨e1, e2⟩ := bs_no (fun hh : BsOk s w h xss least => c2 hh.2)
    rw [e1, e2]
    have c2' : ¬ (-300000 ≤ least ∧ least ≤ 300000) := c2
    simp (config := {decide := true, maxSteps := 1000000}) only [NoH, Old, OldL, nilQ, nilA, RechL, ReY, isNew, stepO, XPost, postN, XOk, updN, updU, isEff, avalue, aeff, ASt.eval, ASt.put, ASt.set, ASt.new, Nat.reduceDiv, Nat.reduceAdd, Int.reduceToNat, absV, absC, scalar, alen, acap, conc, flats, live, blkOf, aload, rd, part?, afieldAddr, afield, aindexAddr, cellsOf, afill, places, abuild, optI, asliceV, asliceS, szOk, srcCells, aappend, astore, amakeSlice, abuildSlice, snapL, mapO, treeL, AVal.tree, AVal.flatT, isFlat, ares, isFz, afroz, afrozB, lookupA, lookupH, tops, if_true, if_false, reduceCtorEq, forall_const, ite_true, ite_false, implies_true, walkS, tabS, Try.results45, eq_false c2', r0, mapC_nil]
    rfl
  have c2' : -300000 ≤ least ∧ least ≤ 300000 := c2
  have h1 : BsOk s w h xss least := ⟨c1, c2⟩
  by_cases c3 : xss.length ≤ 24
  case neg =>
    obtain ⟨e1, e2⟩ := bs_st h1 (fun hh : BsRows w h xss => c3 hh.1)
    rw [e1, e2]
    have c3' : (24 : Int) < xss.length := by omega
    simp (config := {decide := true, maxSteps := 1000000}) only [NoH, Old, OldL, nilQ, nilA, RechL, ReY, isNew, stepO, XPost, postN, XOk, updN, updU, isEff, avalue, aeff, ASt.eval, ASt.put, ASt.set, ASt.new, Nat.reduceDiv, Nat.reduceAdd, Int.reduceToNat, absV, absC, scalar, alen, acap, conc, flats, live, blkOf, aload, rd, part?, afieldAddr, afield, aindexAddr, cellsOf, afill, places, abuild, optI, asliceV, asliceS, szOk, srcCells, aappend, astore, amakeSlice, abuildSlice, snapL, mapO, treeL, AVal.tree, AVal.flatT, isFlat, ares, isFz, afroz, afrozB, lookupA, lookupH, tops, if_true, if_false, reduceCtorEq, forall_const, ite_true, ite_false, implies_true, walkS, tabS, Try.results45, c2', eq_true c3', r0, mapC_nil]
    rfl
  have c3' : ¬ (24 : Int) < xss.length := by omega
  have hb := size_bound c1
  obtain ⟨n, hn⟩ : ∃ n : Nat, w * h = n := ⟨(w * h).toNat, by have : 0 ≤ w * h := Int.mul_nonneg (by have := c1.2.1; omega) (by have := c1.2.2.1; omega); omega⟩
  have hwr : IntKind.i64.wrap (w * h) = (n : Int) := (wrap64 (by omega) (by omega)).trans hn
  simp (config := {decide := true, maxSteps := 1000000}) only [NoH, Old, OldL, nilQ, nilA, RechL, ReY, isNew, stepO, XPost, postN, XOk, updN, updU, isEff, avalue, aeff, ASt.eval, ASt.put, ASt.set, ASt.new, Nat.reduceDiv, Nat.reduceAdd, Int.reduceToNat, absV, absC, scalar, alen, acap, conc, flats, live, blkOf, aload, rd, part?, afieldAddr, afield, aindexAddr, cellsOf, afill, places, abuild, optI, asliceV, asliceS, szOk, srcCells, aappend, astore, amakeSlice, abuildSlice, snapL, mapO, treeL, AVal.tree, AVal.flatT, isFlat, ares, isFz, afroz, afrozB, lookupA, lookupH, tops, if_true, if_false, reduceCtorEq, forall_const, ite_true, ite_false, implies_true, walkS, tabS, Try.results45, c2', eq_false c3']
  refine ex_loop (fun k : {k : Nat // k ≤ xss.length ∧ ∀ i (h : i < xss.length), i < k → xss[i].length = n ∧ ∀ y ∈ xss[i], LevOk y} => mk [(0, .i s), (1, .i w), (2, .i h), (3, intss xss), (4, .i least), (10, .ptr 10 0 0), (12, .i k)] [(10, ⟨0, 5, [.i 0, .i 0, .i 0, .nl, .nl]⟩)] 1 64) (fun k => xss.length - k) ⟨0, by simp⟩ ?_ ?_
  · refine weak_mk rfl (by first | exact Nat.le_refl _ | (simp only [mk_gen]; omega)) ?_ ?_ <;> simp (config := {decide := true}) only [w_lookup_nil, w_lookup_cons, ch_ch, ch_lit, lit_ch, wkT, wkH, wkB, WVL, WV_refl', Int.natCast_zero, Int.natCast_add, Int.natCast_one, Nat.sub_self, Nat.sub_zero, List.replicate_zero, List.take_zero, List.nil_append, List.append_nil, fillC_zero, Nat.reduceDiv, Nat.reduceAdd, upd_bk, bk_at, getB_zero, getB_succ, modB_zero, modB_succ, rows_lit, repB_zero, repB_succ, List.length_cons, List.length_nil, upd_upd_same, upd_apply, mk_tmp, mk_heap, mk_gen, lookupA, lookupH, List.getD_cons_zero, List.getD_cons_succ, init_two, tops, Bool.true_and, and_self, and_true, true_and, true_or, if_true, if_false, ite_true, ite_false, reduceCtorEq, reduceIte]
  rintro ⟨k, hk, hkk⟩
  by_cases hlt : k < xss.length
  · have hw : IntKind.i64.wrap ((k : Int) + 1) = ((k + 1 : Nat) : Int) := wrap64 (by omega) (by omega)
    simp (config := {decide := true, maxSteps := 1000000}) only [NoH, Old, OldL, nilQ, nilA, RechL, ReY, isNew, stepO, XPost, postN, XOk, updN, updU, isEff, avalue, aeff, ASt.eval, ASt.put, ASt.set, ASt.new, Nat.reduceDiv, Nat.reduceAdd, Int.reduceToNat, absV, absC, scalar, alen, acap, conc, flats, live, blkOf, aload, rd, part?, afieldAddr, afield, aindexAddr, cellsOf, afill, places, abuild, optI, asliceV, asliceS, szOk, srcCells, aappend, astore, amakeSlice, abuildSlice, snapL, mapO, treeL, AVal.tree, AVal.flatT, isFlat, ares, isFz, afroz, afrozB, lookupA, lookupH, tops, if_true, if_false, reduceCtorEq, forall_const, ite_true, ite_false, implies_true, walkS, tabS, Try.results45, hw, hlt, hwr]
    refine callK (den_l20List xss[k] n) (by first | exact .inl rfl | exact .inr rfl) ?_
    by_cases h2 : xss[k].length = n ∧ ∀ y ∈ xss[k], LevOk y
    · simp (config := {decide := true, maxSteps := 1000000}) only [NoH, Old, OldL, nilQ, nilA, RechL, ReY, isNew, stepO, XPost, postN, XOk, updN, updU, isEff, avalue, aeff, ASt.eval, ASt.put, ASt.set, ASt.new, Nat.reduceDiv, Nat.reduceAdd, Int.reduceToNat, absV, absC, scalar, alen, acap, conc, flats, live, blkOf, aload, rd, part?, afieldAddr, afield, aindexAddr, cellsOf, afill, places, abuild, optI, asliceV, asliceS, szOk, srcCells, aappend, astore, amakeSlice, abuildSlice, snapL, mapO, treeL, AVal.tree, AVal.flatT, isFlat, ares, isFz, afroz, afrozB, lookupA, lookupH, tops, if_true, if_false, reduceCtorEq, forall_const, ite_true, ite_false, implies_true, walkS, tabS, Try.results45, hw, eq_true h2]
      refine ⟨⟨k + 1, hlt, fun i hi hik => ?_⟩, ?_, by show _ - (k + 1) < _ - k; omega⟩
      · by_cases e : i = k
        · subst e; exact h2
        · exact hkk i hi (by omega)
      · refine weak_mk rfl (by first | exact Nat.le_refl _ | (simp only [mk_gen]; omega)) ?_ ?_ <;> simp (config := {decide := true}) only [w_lookup_nil, w_lookup_cons, ch_ch, ch_lit, lit_ch, wkT, wkH, wkB, WVL, WV_refl', Int.natCast_zero, Int.natCast_add, Int.natCast_one, Nat.sub_self, Nat.sub_zero, List.replicate_zero, List.take_zero, List.nil_append, List.append_nil, fillC_zero, Nat.reduceDiv, Nat.reduceAdd, upd_bk, bk_at, getB_zero, getB_succ, modB_zero, modB_succ, rows_lit, repB_zero, repB_succ, List.length_cons, List.length_nil, upd_upd_same, upd_apply, mk_tmp, mk_heap, mk_gen, lookupA, lookupH, List.getD_cons_zero, List.getD_cons_succ, init_two, tops, Bool.true_and, and_self, and_true, true_and, true_or, if_true, if_false, ite_true, ite_false, reduceCtorEq, reduceIte]
    · obtain ⟨e1, e2⟩ := bs_st h1 (fun hh : BsRows w h xss => h2 ⟨by have := (hh.2 _ (List.getElem_mem hlt)).1; omega, (hh.2 _ (List.getElem_mem hlt)).2⟩)
      rw [e1, e2]
      simp (config := {decide := true, maxSteps := 1000000}) only [NoH, Old, OldL, nilQ, nilA, RechL, ReY, isNew, stepO, XPost, postN, XOk, updN, updU, isEff, avalue, aeff, ASt.eval, ASt.put, ASt.set, ASt.new, Nat.reduceDiv, Nat.reduceAdd, Int.reduceToNat, absV, absC, scalar, alen, acap, conc, flats, live, blkOf, aload, rd, part?, afieldAddr, afield, aindexAddr, cellsOf, afill, places, abuild, optI, asliceV, asliceS, szOk, srcCells, aappend, astore, amakeSlice, abuildSlice, snapL, mapO, treeL, AVal.tree, AVal.flatT, isFlat, ares, isFz, afroz, afrozB, lookupA, lookupH, tops, if_true, if_false, reduceCtorEq, forall_const, ite_true, ite_false, implies_true, walkS, tabS, Try.results45, hw, eq_false h2, r0, mapC_nil]
      rfl
  have hr : BsRows w h xss := ⟨c3, fun x hx => by
    obtain ⟨i, hi, rfl⟩ := List.getElem_of_mem hx
    have := hkk i hi (by omega)
    exact ⟨by rw [hn, this.1], this.2⟩⟩
  obtain ⟨e1, e2⟩ := bs_yes h1 hr
  rw [e1, e2]
  have hn2 : (w * h).toNat = n := by omega
  rw [hn2]
  simp (config := {decide := true, maxSteps := 1000000}) only [NoH, Old, OldL, nilQ, nilA, RechL, ReY, isNew, stepO, XPost, postN, XOk, updN, updU, isEff, avalue, aeff, ASt.eval, ASt.put, ASt.set, ASt.new, Nat.reduceDiv, Nat.reduceAdd, Int.reduceToNat, absV, absC, scalar, alen, acap, conc, flats, live, blkOf, aload, rd, part?, afieldAddr, afield, aindexAddr, cellsOf, afill, places, abuild, optI, asliceV, asliceS, szOk, srcCells, aappend, astore, amakeSlice, abuildSlice, snapL, mapO, treeL, AVal.tree, AVal.flatT, isFlat, ares, isFz, afroz, afrozB, lookupA, lookupH, tops, if_true, if_false, reduceCtorEq, forall_const, ite_true, ite_false, implies_true, walkS, tabS, Try.results45, hlt]
  refine callX (denx_l20Empty s w h n hn (by omega) (by have := c1.2.1; omega) (by have := c1.2.2.1; omega)) (by simp (config := {decide := true, maxSteps := 1000000}) only [NoH, Old, OldL, nilQ, nilA, RechL, ReY, isNew, stepO, XPost, postN, XOk, updN, updU, isEff, avalue, aeff, ASt.eval, ASt.put, ASt.set, ASt.new, Nat.reduceDiv, Nat.reduceAdd, Int.reduceToNat, absV, absC, scalar, alen, acap, conc, flats, live, blkOf, aload, rd, part?, afieldAddr, afield, aindexAddr, cellsOf, afill, places, abuild, optI, asliceV, asliceS, szOk, srcCells, aappend, astore, amakeSlice, abuildSlice, snapL, mapO, treeL, AVal.tree, AVal.flatT, isFlat, ares, isFz, afroz, afrozB, lookupA, lookupH, tops, if_true, if_false, reduceCtorEq, forall_const, ite_true, ite_false, implies_true, walkS, tabS, Try.results45]) ?_
  simp (config := {decide := true, maxSteps := 1000000}) only [NoH, Old, OldL, nilQ, nilA, RechL, ReY, isNew, stepO, XPost, postN, XOk, updN, updU, isEff, avalue, aeff, ASt.eval, ASt.put, ASt.set, ASt.new, Nat.reduceDiv, Nat.reduceAdd, Int.reduceToNat, absV, absC, scalar, alen, acap, conc, flats, live, blkOf, aload, rd, part?, afieldAddr, afield, aindexAddr, cellsOf, afill, places, abuild, optI, asliceV, asliceS, szOk, srcCells, aappend, astore, amakeSlice, abuildSlice, snapL, mapO, treeL, AVal.tree, AVal.flatT, isFlat, ares, isFz, afroz, afrozB, lookupA, lookupH, tops, if_true, if_false, reduceCtorEq, forall_const, ite_true, ite_false, implies_true, walkS, tabS, Try.results45]
  refine ex_loop (fun p : {p : Nat × Nat // p.1 ≤ xss.length} => mk [(3, intss xss), (4, .i least), (10, .ptr 10 0 0), (13, .ptr 13 2 0), (14, .i p.1.1)] [(10, ⟨0, 5, [.i 0, .i 0, .i 0, .nl, .nl]⟩), (13, ⟨2, 5, [.i s, .i w, .i h, .lst (mapC AVal.i (bsK xss least n p.1.1).1) n, .lst (mapC AVal.i (bsK xss least n p.1.1).2) n]⟩)] p.1.2 64) (fun p => xss.length - p.1.1) ⟨(0, 3), by simp⟩ ?_ ?_
  · refine weak_mk rfl (by first | exact Nat.le_refl _ | (simp only [mk_gen]; omega)) ?_ ?_ <;> simp (config := {decide := true}) only [w_lookup_nil, w_lookup_cons, ch_ch, ch_lit, lit_ch, wkT, wkH, wkB, WVL, WV_refl', Int.natCast_zero, Int.natCast_add, Int.natCast_one, Nat.sub_self, Nat.sub_zero, List.replicate_zero, List.take_zero, List.nil_append, List.append_nil, fillC_zero, Nat.reduceDiv, Nat.reduceAdd, upd_bk, bk_at, getB_zero, getB_succ, modB_zero, modB_succ, rows_lit, repB_zero, repB_succ, List.length_cons, List.length_nil, upd_upd_same, upd_apply, mk_tmp, mk_heap, mk_gen, lookupA, lookupH, List.getD_cons_zero, List.getD_cons_succ, init_two, tops, Bool.true_and, and_self, and_true, true_and, true_or, if_true, if_false, ite_true, ite_false, reduceCtorEq, reduceIte, bsK]
    refine .inr ⟨WV_frz rfl rfl rfl (by simp [len_mapC]) ?_ (treeL_i _), WV_frz rfl rfl rfl (by simp [len_mapC]) ?_ (treeL_i _)⟩
    · rw [List.drop_zero]; exact (List.take_of_length_le (by rw [len_mapC]; simp)).symm
    · rw [List.drop_zero]; exact (List.take_of_length_le (by rw [len_mapC]; simp)).symm
  · rintro ⟨⟨k, G⟩, hk⟩
    have hk' : k ≤ xss.length := hk
    obtain ⟨l1, l2⟩ := bsK_length xss least n k
    by_cases klt : k < xss.length
    · have hw : IntKind.i64.wrap ((k : Int) + 1) = ((k + 1 : Nat) : Int) := wrap64 (by omega) (by omega)
      have hrow := hkk k klt (by omega)
      have eg : xss.getD k [] = xss[k] := by simp [List.getD, klt]
      have eb : bsK xss least n (k + 1) = (adS (bsK xss least n k).1 (bsK xss least n k).2 xss[k] k least n, adL (bsK xss least n k).1 (bsK xss least n k).2 xss[k] least n) := by rw [bsK, eg]
      have hx := denx_l20Add s w h (bsK xss least n k).1 (bsK xss least n k).2 xss[k] k least (by omega) (by omega) (by omega)
      have a1 : (adS (bsK xss least n k).1 (bsK xss least n k).2 xss[k] k least n).length = n := by rw [adS, upK_length, l1]
      have a2 : (adL (bsK xss least n k).1 (bsK xss least n k).2 xss[k] least n).length = n := by rw [adL, upK_length, l2]
      simp only [rasP, rasX, xints, ints, lstC, l1, l2, a1, a2] at hx
      simp (config := {decide := true, maxSteps := 1000000}) only [NoH, Old, OldL, nilQ, nilA, RechL, ReY, isNew, stepO, XPost, postN, XOk, updN, updU, isEff, avalue, aeff, ASt.eval, ASt.put, ASt.set, ASt.new, Nat.reduceDiv, Nat.reduceAdd, Int.reduceToNat, absV, absC, scalar, alen, acap, conc, flats, live, blkOf, aload, rd, part?, afieldAddr, afield, aindexAddr, cellsOf, afill, places, abuild, optI, asliceV, asliceS, szOk, srcCells, aappend, astore, amakeSlice, abuildSlice, snapL, mapO, treeL, AVal.tree, AVal.flatT, isFlat, ares, isFz, afroz, afrozB, lookupA, lookupH, tops, if_true, if_false, reduceCtorEq, forall_const, ite_true, ite_false, implies_true, walkS, tabS, Try.results45, hw, klt]
      refine callX (hx) (by simp (config := {decide := true, maxSteps := 1000000}) only [NoH, Old, OldL, nilQ, nilA, RechL, ReY, isNew, stepO, XPost, postN, XOk, updN, updU, isEff, avalue, aeff, ASt.eval, ASt.put, ASt.set, ASt.new, Nat.reduceDiv, Nat.reduceAdd, Int.reduceToNat, absV, absC, scalar, alen, acap, conc, flats, live, blkOf, aload, rd, part?, afieldAddr, afield, aindexAddr, cellsOf, afill, places, abuild, optI, asliceV, asliceS, szOk, srcCells, aappend, astore, amakeSlice, abuildSlice, snapL, mapO, treeL, AVal.tree, AVal.flatT, isFlat, ares, isFz, afroz, afrozB, lookupA, lookupH, tops, if_true, if_false, reduceCtorEq, forall_const, ite_true, ite_false, implies_true, walkS, tabS, Try.results45]) ?_
      simp (config := {decide := true, maxSteps := 1000000}) only [NoH, Old, OldL, nilQ, nilA, RechL, ReY, isNew, stepO, XPost, postN, XOk, updN, updU, isEff, avalue, aeff, ASt.eval, ASt.put, ASt.set, ASt.new, Nat.reduceDiv, Nat.reduceAdd, Int.reduceToNat, absV, absC, scalar, alen, acap, conc, flats, live, blkOf, aload, rd, part?, afieldAddr, afield, aindexAddr, cellsOf, afill, places, abuild, optI, asliceV, asliceS, szOk, srcCells, aappend, astore, amakeSlice, abuildSlice, snapL, mapO, treeL, AVal.tree, AVal.flatT, isFlat, ares, isFz, afroz, afrozB, lookupA, lookupH, tops, if_true, if_false, reduceCtorEq, forall_const, ite_true, ite_false, implies_true, walkS, tabS, Try.results45, hw, a1, a2]
      refine ⟨⟨(k + 1, G + 1), klt⟩, ?_, by show _ - (k + 1) < _ - k; omega⟩
      refine weak_mk rfl (by first | exact Nat.le_refl _ | (simp only [mk_gen]; omega)) ?_ ?_ <;> simp (config := {decide := true}) only [w_lookup_nil, w_lookup_cons, ch_ch, ch_lit, lit_ch, wkT, wkH, wkB, WVL, WV_refl', Int.natCast_zero, Int.natCast_add, Int.natCast_one, Nat.sub_self, Nat.sub_zero, List.replicate_zero, List.take_zero, List.nil_append, List.append_nil, fillC_zero, Nat.reduceDiv, Nat.reduceAdd, upd_bk, bk_at, getB_zero, getB_succ, modB_zero, modB_succ, rows_lit, repB_zero, repB_succ, List.length_cons, List.length_nil, upd_upd_same, upd_apply, mk_tmp, mk_heap, mk_gen, lookupA, lookupH, List.getD_cons_zero, List.getD_cons_succ, init_two, tops, Bool.true_and, and_self, and_true, true_and, true_or, if_true, if_false, ite_true, ite_false, reduceCtorEq, reduceIte, eb]
      refine .inr ⟨WV_frz rfl rfl rfl (by simp [len_mapC, a1]) ?_ (treeL_i _), WV_frz rfl rfl rfl (by simp [len_mapC, a2]) ?_ (treeL_i _)⟩
      · rw [List.drop_zero]; exact (List.take_of_length_le (by rw [len_mapC]; simp [a1])).symm
      · rw [List.drop_zero]; exact (List.take_of_length_le (by rw [len_mapC]; simp [a2])).symm
    · have e : k = xss.length := by omega
      subst e
      simp (config := {decide := true, maxSteps := 1000000}) only [NoH, Old, OldL, nilQ, nilA, RechL, ReY, isNew, stepO, XPost, postN, XOk, updN, updU, isEff, avalue, aeff, ASt.eval, ASt.put, ASt.set, ASt.new, Nat.reduceDiv, Nat.reduceAdd, Int.reduceToNat, absV, absC, scalar, alen, acap, conc, flats, live, blkOf, aload, rd, part?, afieldAddr, afield, aindexAddr, cellsOf, afill, places, abuild, optI, asliceV, asliceS, szOk, srcCells, aappend, astore, amakeSlice, abuildSlice, snapL, mapO, treeL, AVal.tree, AVal.flatT, isFlat, ares, isFz, afroz, afrozB, lookupA, lookupH, tops, if_true, if_false, reduceCtorEq, forall_const, ite_true, ite_false, implies_true, walkS, tabS, Try.results45, klt]
      simp only [rstV, rasV, ints, lstC, l1, l2]
end Go.Proofs.Ytdbongnhdlbplaa
