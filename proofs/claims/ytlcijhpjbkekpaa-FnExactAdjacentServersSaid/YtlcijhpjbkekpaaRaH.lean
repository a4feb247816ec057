/-
  OWN WORK: cells counted by their servers, and by their levels.
-/
import Derived.Test.YtlcijhpjbkekpaaRaN
namespace Go.Proofs.Ytlcijhpjbkekpaa
open Go Go.Own Go.Proofs
set_option maxHeartbeats 4000000
set_option maxRecDepth 20000
set_option linter.unusedSimpArgs false
/-- one more at a place, if it is one -/
def bump (o : List Int) (j : Int) : List Int := if 0 ≤ j then o.set j.toNat (IntKind.i64.wrap (o.getD j.toNat 0 + 1)) else o
theorem bump_length (o : List Int) (j : Int) : (bump o j).length = o.length := by
  unfold bump
  split <;> simp
theorem bump_nat (o : List Int) (m : Nat) (h : m < o.length) : bump o m = o.set m (IntKind.i64.wrap (o[m] + 1)) := by
  unfold bump
  rw [if_pos (by omega)]
  simp [List.getD, h]
theorem bump_out (o : List Int) (j : Int) (h : j < 0 ∨ (o.length : Int) ≤ j) : bump o j = o := by
  unfold bump
  split
  · rw [List.set_eq_of_length_le (by omega)]
  · rfl
def bumps (g : Int → Int) (o : List Int) (l : List Int) : List Int := l.foldl (fun o c => bump o (g c)) o
theorem bumps_snoc (g : Int → Int) (o l : List Int) (c : Int) : bumps g o (l ++ [c]) = bump (bumps g o l) (g c) := by simp [bumps]
theorem bumps_length (g : Int → Int) (l : List Int) : ∀ o : List Int, (bumps g o l).length = o.length := by
  induction l with
  | nil => intro o; rfl
  | cons c l ih =>
    intro o
    have := ih (bump o (g c))
    rw [bump_length] at this
    exact this
theorem cov_get2 {sv : List Int} {j : Nat} (h : j < (cov sv).length) : ∃ n : Nat, (cov sv)[j] = n ∧ ∃ h : n < sv.length, 0 ≤ sv[n] := by
  obtain ⟨n, e, h1, h2⟩ := covK_mem sv sv.length _ (List.getElem_mem h)
  exact ⟨n, e, h1, by simpa [List.getD, h1] using h2⟩
theorem den_l21Most (s w h : Int) (sv lv : List Int) (hb : ∀ x ∈ sv, -1 ≤ x ∧ x ≤ 23) : Den Try.prog 15 [rasP s w h sv lv] (.i (mostOf (-1) sv + 1)) := by
  refine den_of_awp Try.func15 rfl (by kernel_rfl) (Nat.le_of_ble_eq_true rfl) (by simp only [treeL, AVal.tree, treeL_i, treeL_ints, treeL_u8, treeL_append, Bool.and_self, Bool.and_true, Bool.true_and]) (by first | rfl | simp only [treeL, AVal.tree, treeL_i, treeL_ints, treeL_u8, treeL_append, Bool.and_self, Bool.and_true, Bool.true_and]) mixed (by kernel_rfl) fun hl => ?_
  simp only [lensL, lens, lensL_i, lensL_mapC, maxI, and_true, true_and] at hl
  rw [Try.ntmps15]
  refine ex_start ?_
  simp (config := { maxSteps := 1000000 }) +decide only [NoH, Old, OldL, nilQ, nilA, RechL, ReY, isNew, stepO, XPost, postN, XOk, updN, updU, isEff, avalue, aeff, ASt.eval, ASt.put, ASt.set, ASt.new, Nat.reduceDiv, Nat.reduceAdd, Int.reduceToNat, absV, absC, scalar, alen, acap, conc, flats, live, blkOf, aload, rd, part?, afieldAddr, afield, aindexAddr, cellsOf, afill, places, abuild, optI, asliceV, asliceS, szOk, srcCells, aappend, astore, amakeSlice, abuildSlice, snapL, mapO, treeL, AVal.tree, AVal.flatT, isFlat, ares, isFz, afroz, afrozB, lookupA, lookupH, tops, if_true, if_false, reduceCtorEq, forall_const, ite_true, ite_false, implies_true, walkS, tabS, Try.results15]
  refine ex_loop (fun k : {k : Nat // k ≤ sv.length} => mk [(0, rasP s w h sv lv), (3, .i (mostOf (-1) (sv.take k))), (4, .i k)] [] 0 25) (fun k => sv.length - k) ⟨0, by simp⟩ ?_ ?_
  · refine weak_mk rfl (by first | exact Nat.le_refl _ | (simp only [mk_gen]; omega)) ?_ ?_ <;> simp +decide only [w_lookup_nil, w_lookup_cons, ch_ch, ch_lit, lit_ch, wkT, wkH, wkB, WVL, WV_refl', Int.natCast_zero, Int.natCast_add, Int.natCast_one, Nat.sub_self, Nat.sub_zero, List.replicate_zero, List.take_zero, List.nil_append, List.append_nil, fillC_zero, Nat.reduceDiv, Nat.reduceAdd, upd_bk, bk_at, getB_zero, getB_succ, modB_zero, modB_succ, rows_lit, repB_zero, repB_succ, List.length_cons, List.length_nil, upd_upd_same, upd_apply, mk_tmp, mk_heap, mk_gen, lookupA, lookupH, List.getD_cons_zero, List.getD_cons_succ, init_two, tops, Bool.true_and, and_self, and_true, true_and, true_or, if_true, if_false, ite_true, ite_false, reduceCtorEq, reduceIte, mostOf, List.foldl_nil]
  · rintro ⟨k, hk⟩
    by_cases hlt : k < sv.length
    · have hw : IntKind.i64.wrap ((k : Int) + 1) = ((k + 1 : Nat) : Int) := wrap64 (by omega) (by omega)
      simp (config := { maxSteps := 1000000 }) +decide only [NoH, Old, OldL, nilQ, nilA, RechL, ReY, isNew, stepO, XPost, postN, XOk, updN, updU, isEff, avalue, aeff, ASt.eval, ASt.put, ASt.set, ASt.new, Nat.reduceDiv, Nat.reduceAdd, Int.reduceToNat, absV, absC, scalar, alen, acap, conc, flats, live, blkOf, aload, rd, part?, afieldAddr, afield, aindexAddr, cellsOf, afill, places, abuild, optI, asliceV, asliceS, szOk, srcCells, aappend, astore, amakeSlice, abuildSlice, snapL, mapO, treeL, AVal.tree, AVal.flatT, isFlat, ares, isFz, afroz, afrozB, lookupA, lookupH, tops, if_true, if_false, reduceCtorEq, forall_const, ite_true, ite_false, implies_true, walkS, tabS, Try.results15, hw, hlt]
      refine callK (den_l00Max _ _) (by first | exact .inl rfl | exact .inr rfl) ?_
      simp (config := { maxSteps := 1000000 }) +decide only [NoH, Old, OldL, nilQ, nilA, RechL, ReY, isNew, stepO, XPost, postN, XOk, updN, updU, isEff, avalue, aeff, ASt.eval, ASt.put, ASt.set, ASt.new, Nat.reduceDiv, Nat.reduceAdd, Int.reduceToNat, absV, absC, scalar, alen, acap, conc, flats, live, blkOf, aload, rd, part?, afieldAddr, afield, aindexAddr, cellsOf, afill, places, abuild, optI, asliceV, asliceS, szOk, srcCells, aappend, astore, amakeSlice, abuildSlice, snapL, mapO, treeL, AVal.tree, AVal.flatT, isFlat, ares, isFz, afroz, afrozB, lookupA, lookupH, tops, if_true, if_false, reduceCtorEq, forall_const, ite_true, ite_false, implies_true, walkS, tabS, Try.results15, hw]
      refine ⟨⟨k + 1, hlt⟩, ?_, ?_⟩
      · refine weak_mk rfl (by first | exact Nat.le_refl _ | (simp only [mk_gen]; omega)) ?_ ?_ <;> simp +decide only [w_lookup_nil, w_lookup_cons, ch_ch, ch_lit, lit_ch, wkT, wkH, wkB, WVL, WV_refl', Int.natCast_zero, Int.natCast_add, Int.natCast_one, Nat.sub_self, Nat.sub_zero, List.replicate_zero, List.take_zero, List.nil_append, List.append_nil, fillC_zero, Nat.reduceDiv, Nat.reduceAdd, upd_bk, bk_at, getB_zero, getB_succ, modB_zero, modB_succ, rows_lit, repB_zero, repB_succ, List.length_cons, List.length_nil, upd_upd_same, upd_apply, mk_tmp, mk_heap, mk_gen, lookupA, lookupH, List.getD_cons_zero, List.getD_cons_succ, init_two, tops, Bool.true_and, and_self, and_true, true_and, true_or, if_true, if_false, ite_true, ite_false, reduceCtorEq, reduceIte, List.take_succ_eq_append_getElem hlt, mostOf_snoc]
      · show _ - (k + 1) < _ - k
        omega
    · have e : k = sv.length := by omega
      subst e
      have hm : mostOf (-1) sv ≤ 23 := by
        rcases mostOf_in sv (-1) with e | e
        · omega
        · exact (hb _ e).2
      have hm0 := (mostOf_ge sv (-1)).1
      have hw : IntKind.i64.wrap (mostOf (-1) sv + 1) = mostOf (-1) sv + 1 := wrap64 (by omega) (by omega)
      simp (config := { maxSteps := 1000000 }) +decide only [NoH, Old, OldL, nilQ, nilA, RechL, ReY, isNew, stepO, XPost, postN, XOk, updN, updU, isEff, avalue, aeff, ASt.eval, ASt.put, ASt.set, ASt.new, Nat.reduceDiv, Nat.reduceAdd, Int.reduceToNat, absV, absC, scalar, alen, acap, conc, flats, live, blkOf, aload, rd, part?, afieldAddr, afield, aindexAddr, cellsOf, afill, places, abuild, optI, asliceV, asliceS, szOk, srcCells, aappend, astore, amakeSlice, abuildSlice, snapL, mapO, treeL, AVal.tree, AVal.flatT, isFlat, ares, isFz, afroz, afrozB, lookupA, lookupH, tops, if_true, if_false, reduceCtorEq, forall_const, ite_true, ite_false, implies_true, walkS, tabS, Try.results15, hlt, List.take_length, hw]
theorem den_servers (s w h : Int) (sv lv : List Int) (h0 : 0 < sv.length) (hb : ∀ x ∈ sv, -1 ≤ x ∧ x ≤ 23) : Den Try.prog 19 [rasV s w h sv lv] (.i (mostOf (-1) sv + 1)) := by
  refine den_of_awp Try.func19 rfl (by kernel_rfl) (Nat.le_of_ble_eq_true rfl) (by simp only [treeL, AVal.tree, treeL_i, treeL_ints, treeL_u8, treeL_append, Bool.and_self, Bool.and_true, Bool.true_and]) (by first | rfl | simp only [treeL, AVal.tree, treeL_i, treeL_ints, treeL_u8, treeL_append, Bool.and_self, Bool.and_true, Bool.true_and]) mixed (by kernel_rfl) fun hl => ?_
  simp only [lensL, lens, lensL_i, lensL_mapC, maxI, and_true, true_and] at hl
  rw [Try.ntmps19]
  refine ex_start ?_
  have hm : mostOf (-1) sv ≤ 23 := by
    rcases mostOf_in sv (-1) with e | e
    · omega
    · exact (hb _ e).2
  have hm0 := (mostOf_ge sv (-1)).1
  have hw : IntKind.i64.wrap (mostOf (-1) sv + 1) = mostOf (-1) sv + 1 := wrap64 (by omega) (by omega)
  simp (config := { maxSteps := 1000000 }) +decide only [NoH, Old, OldL, nilQ, nilA, RechL, ReY, isNew, stepO, XPost, postN, XOk, updN, updU, isEff, avalue, aeff, ASt.eval, ASt.put, ASt.set, ASt.new, Nat.reduceDiv, Nat.reduceAdd, Int.reduceToNat, absV, absC, scalar, alen, acap, conc, flats, live, blkOf, aload, rd, part?, afieldAddr, afield, aindexAddr, cellsOf, afill, places, abuild, optI, asliceV, asliceS, szOk, srcCells, aappend, astore, amakeSlice, abuildSlice, snapL, mapO, treeL, AVal.tree, AVal.flatT, isFlat, ares, isFz, afroz, afrozB, lookupA, lookupH, tops, if_true, if_false, reduceCtorEq, forall_const, ite_true, ite_false, implies_true, walkS, tabS, Try.results19]
  refine callK (den_Max sv h0) (by first | exact .inl rfl | exact .inr rfl) ?_
  simp (config := { maxSteps := 1000000 }) +decide only [NoH, Old, OldL, nilQ, nilA, RechL, ReY, isNew, stepO, XPost, postN, XOk, updN, updU, isEff, avalue, aeff, ASt.eval, ASt.put, ASt.set, ASt.new, Nat.reduceDiv, Nat.reduceAdd, Int.reduceToNat, absV, absC, scalar, alen, acap, conc, flats, live, blkOf, aload, rd, part?, afieldAddr, afield, aindexAddr, cellsOf, afill, places, abuild, optI, asliceV, asliceS, szOk, srcCells, aappend, astore, amakeSlice, abuildSlice, snapL, mapO, treeL, AVal.tree, AVal.flatT, isFlat, ares, isFz, afroz, afrozB, lookupA, lookupH, tops, if_true, if_false, reduceCtorEq, forall_const, ite_true, ite_false, implies_true, walkS, tabS, Try.results19, mostOf_head h0 (fun x hx => (hb x hx).1), hw]
theorem ok_sv {s w h : Int} {sv lv : List Int} (h1 : OkRas s w h sv lv) : ∀ x ∈ sv, -1 ≤ x ∧ x ≤ 23 := by
  intro x hx
  obtain ⟨i, hi, rfl⟩ := List.getElem_of_mem hx
  exact (h1.2.2.2 i hi (by have := h1.2.2.1; omega)).1
noncomputable def scN (s w h : Int) (sv lv : List Int) : Nat := if bp (OkRas s w h sv lv) then (mostOf (-1) sv + 1).toNat else 0
def scG (sv : List Int) (c : Int) : Int := sv.getD c.toNat (-1)
noncomputable def scL (s w h : Int) (sv lv : List Int) : List Int := bumps (scG sv) (List.replicate (scN s w h sv lv) 0) (if bp (OkRas s w h sv lv) then cov sv else [])
theorem sc_yes {s w h : Int} {sv lv : List Int} (h1 : OkRas s w h sv lv) : ∃ n : Nat, n ≤ 24 ∧ mostOf (-1) sv + 1 = (n : Int) ∧ (∀ (i : Nat) (hi : i < sv.length), sv[i] < n) ∧ scL s w h sv lv = bumps (scG sv) (List.replicate n 0) (cov sv) := by
  have hb := ok_sv h1
  have hm0 := mostOf_ge sv (-1)
  have hm : mostOf (-1) sv ≤ 23 := by
    rcases mostOf_in sv (-1) with e | e
    · omega
    · exact (hb _ e).2
  refine ⟨(mostOf (-1) sv + 1).toNat, by omega, by omega, fun i hi => ?_, ?_⟩
  · have := hm0.2 _ (List.getElem_mem hi)
    omega
  · unfold scL scN
    rw [if_pos (by rw [bp_true]; exact h1), if_pos (by rw [bp_true]; exact h1)]
theorem sc_no {s w h : Int} {sv lv : List Int} (h1 : ¬ OkRas s w h sv lv) : scL s w h sv lv = [] := by
  unfold scL scN
  rw [if_neg (by rw [bp_true]; exact h1), if_neg (by rw [bp_true]; exact h1)]
  rfl
theorem sc_len (s w h : Int) (sv lv : List Int) : (scL s w h sv lv).length ≤ 24 := by
  by_cases h1 : OkRas s w h sv lv
  · obtain ⟨n, h2, _, _, e⟩ := sc_yes h1
    rw [e, bumps_length]
    simpa using h2
  · rw [sc_no h1]; simp
end Go.Proofs.Ytlcijhpjbkekpaa
