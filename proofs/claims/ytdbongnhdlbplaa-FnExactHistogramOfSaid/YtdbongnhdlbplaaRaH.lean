/-
  OWN WORK: cells counted by their servers, and by their levels.
-/
import Derived.Test.YtdbongnhdlbplaaRaN
namespace Go.Proofs.Ytdbongnhdlbplaa
open Go Go.Own Go.Proofs
set_option maxHeartbeats 4000000
set_option maxRecDepth 20000
set_option linter.unusedSimpArgs false
/-- one more at a place, if it is one -/
def bump (o : List Int) (j : Int) : List Int := if 0 ≤ j then o.set j.toNat (IntKind.i64.wrap (o.getD j.toNat 0 + 1)) else o
theorem bump_length (o : List Int) (j : Int) : (bump o j).length = o.length := by
  unfold bump
  split <;> simp
theorem bump_nat (o : List Int) (m : Nat) (h : m < o.length) : bump o m = o.set m (IntKind.i64.wrap (o[m] + 1)) := by
  unfold bump
  rw [if_pos (by omega)]
  simp [List.getD, h]
theorem bump_out (o : List Int) (j : Int) (h : j < 0 ∨ (o.length : Int) ≤ j) : bump o j = o := by
  unfold bump
  split
  · rw [List.set_eq_of_length_le (by omega)]
  · rfl
def bumps (g : Int → Int) (o : List Int) (l : List Int) : List Int := l.foldl (fun o c => bump o (g c)) o
theorem bumps_snoc (g : Int → Int) (o l : List Int) (c : Int) : bumps g o (l ++ [c]) = bump (bumps g o l) (g c) := by simp [bumps]
theorem bumps_length (g : Int → Int) (l : List Int) : ∀ o : List Int, (bumps g o l).length = o.length := by
  induction l with
  | nil => intro o; rfl
  | cons c l ih =>
    intro o
    have := ih (bump o (g c))
    rw [bump_length] at this
    exact this
theorem cov_get2 {sv : List Int} {j : Nat} (h : j < (cov sv).length) : ∃ n : Nat, (cov sv)[j] = n ∧ ∃ h : n < sv.length, 0 ≤ sv[n] := by
  obtain ⟨n, e, h1, h2⟩ := covK_mem sv sv.length _ (List.getElem_mem h)
  exact ⟨n, e, h1, by simpa [List.getD, h1] using h2⟩
theorem den_l21Most (s w h : Int) (sv lv : List Int) (hb : ∀ x ∈ sv, -1 ≤ x ∧ x ≤ 23) : Den Try.prog 63 [rasP s w h sv lv] (.i (mostOf (-1) sv + 1)) := by
  refine den_of_awp Try.func63 rfl (by kernel_rfl) (Nat.le_of_ble_eq_true rfl) (by simp only [treeL, AVal.tree, treeL_i, treeL_ints, treeL_append, Bool.and_self, Bool.and_true, Bool.true_and]) (by first | rfl | simp only [treeL, AVal.tree, treeL_i, treeL_ints, treeL_append, Bool.and_self, Bool.and_true, Bool.true_and]) mixed (by kernel_rfl) fun hl => ?_
  simp only [lensL, lens, lensL_i, lensL_mapC, maxI, and_true, true_and] at hl
  rw [Try.ntmps63]
  refine ex_start ?_
  simp (config := {decide := true, maxSteps := 1000000}) only [nilQ, nilA, RechL, ReY, isNew, stepO, XPost, postN, XOk, updN, updU, isEff, avalue, aeff, ASt.eval, ASt.put, ASt.set, ASt.new, Nat.reduceDiv, Nat.reduceAdd, Int.reduceToNat, absV, absC, scalar, alen, acap, conc, flats, live, blkOf, aload, rd, part?, afieldAddr, afield, aindexAddr, cellsOf, afill, places, abuild, optI, asliceV, asliceS, szOk, srcCells, aappend, astore, amakeSlice, abuildSlice, snapL, mapO, treeL, AVal.tree, AVal.flatT, isFlat, ares, lookupA, lookupH, tops, if_true, if_false, reduceCtorEq, forall_const, ite_true, ite_false, implies_true, walkS, tabS, Try.results63]
  refine ex_loop (fun k : {k : Nat // k ≤ sv.length} => mk [(0, rasP s w h sv lv), (3, .i (mostOf (-1) (sv.take k))), (4, .i k)] [] 0 25) (fun k => sv.length - k) ⟨0, by simp⟩ ?_ ?_
  · refine weak_mk rfl (by first | exact Nat.le_refl _ | (simp only [mk_gen]; omega)) ?_ ?_ <;> simp (config := {decide := true}) only [w_lookup_nil, w_lookup_cons, ch_ch, ch_lit, lit_ch, wkT, wkH, wkB, WVL, WV_refl', Int.natCast_zero, Int.natCast_add, Int.natCast_one, Nat.sub_self, Nat.sub_zero, List.replicate_zero, List.take_zero, List.nil_append, List.append_nil, fillC_zero, Nat.reduceDiv, Nat.reduceAdd, upd_bk, bk_at, getB_zero, getB_succ, modB_zero, modB_succ, rows_lit, repB_zero, repB_succ, List.length_cons, List.length_nil, upd_upd_same, upd_apply, mk_tmp, mk_heap, mk_gen, lookupA, lookupH, List.getD_cons_zero, List.getD_cons_succ, init_two, tops, Bool.true_and, and_self, and_true, true_and, true_or, if_true, if_false, ite_true, ite_false, reduceCtorEq, reduceIte, mostOf, List.foldl_nil]
  · rintro ⟨k, hk⟩
    by_cases hlt : k < sv.length
    · have hw : IntKind.i64.wrap ((k : Int) + 1) = ((k + 1 : Nat) : Int) := wrap64 (by omega) (by omega)
      simp (config := {decide := true, maxSteps := 1000000}) only [nilQ, nilA, RechL, ReY, isNew, stepO, XPost, postN, XOk, updN, updU, isEff, avalue, aeff, ASt.eval, ASt.put, ASt.set, ASt.new, Nat.reduceDiv, Nat.reduceAdd, Int.reduceToNat, absV, absC, scalar, alen, acap, conc, flats, live, blkOf, aload, rd, part?, afieldAddr, afield, aindexAddr, cellsOf, afill, places, abuild, optI, asliceV, asliceS, szOk, srcCells, aappend, astore, amakeSlice, abuildSlice, snapL, mapO, treeL, AVal.tree, AVal.flatT, isFlat, ares, lookupA, lookupH, tops, if_true, if_false, reduceCtorEq, forall_const, ite_true, ite_false, implies_true, walkS, tabS, Try.results63, hw, hlt]
      refine callK (den_l00Max _ _) (by first | exact .inl rfl | exact .inr rfl) ?_
      simp (config := {decide := true, maxSteps := 1000000}) only [nilQ, nilA, RechL, ReY, isNew, stepO, XPost, postN, XOk, updN, updU, isEff, avalue, aeff, ASt.eval, ASt.put, ASt.set, ASt.new, Nat.reduceDiv, Nat.reduceAdd, Int.reduceToNat, absV, absC, scalar, alen, acap, conc, flats, live, blkOf, aload, rd, part?, afieldAddr, afield, aindexAddr, cellsOf, afill, places, abuild, optI, asliceV, asliceS, szOk, srcCells, aappend, astore, amakeSlice, abuildSlice, snapL, mapO, treeL, AVal.tree, AVal.flatT, isFlat, ares, lookupA, lookupH, tops, if_true, if_false, reduceCtorEq, forall_const, ite_true, ite_false, implies_true, walkS, tabS, Try.results63, hw]
      refine ⟨⟨k + 1, hlt⟩, ?_, ?_⟩
      · refine weak_mk rfl (by first | exact Nat.le_refl _ | (simp only [mk_gen]; omega)) ?_ ?_ <;> simp (config := {decide := true}) only [w_lookup_nil, w_lookup_cons, ch_ch, ch_lit, lit_ch, wkT, wkH, wkB, WVL, WV_refl', Int.natCast_zero, Int.natCast_add, Int.natCast_one, Nat.sub_self, Nat.sub_zero, List.replicate_zero, List.take_zero, List.nil_append, List.append_nil, fillC_zero, Nat.reduceDiv, Nat.reduceAdd, upd_bk, bk_at, getB_zero, getB_succ, modB_zero, modB_succ, rows_lit, repB_zero, repB_succ, List.length_cons, List.length_nil, upd_upd_same, upd_apply, mk_tmp, mk_heap, mk_gen, lookupA, lookupH, List.getD_cons_zero, List.getD_cons_succ, init_two, tops, Bool.true_and, and_self, and_true, true_and, true_or, if_true, if_false, ite_true, ite_false, reduceCtorEq, reduceIte, List.take_succ_eq_append_getElem hlt, mostOf_snoc]
      · show _ - (k + 1) < _ - k
        omega
    · have e : k = sv.length := by omega
      subst e
      have hm : mostOf (-1) sv ≤ 23 := by
        rcases mostOf_in sv (-1) with e | e
        · omega
        · exact (hb _ e).2
      have hm0 := (mostOf_ge sv (-1)).1
      have hw : IntKind.i64.wrap (mostOf (-1) sv + 1) = mostOf (-1) sv + 1 := wrap64 (by omega) (by omega)
      simp (config := {decide := true, maxSteps := 1000000}) only [nilQ, nilA, RechL, ReY, isNew, stepO, XPost, postN, XOk, updN, updU, isEff, avalue, aeff, ASt.eval, ASt.put, ASt.set, ASt.new, Nat.reduceDiv, Nat.reduceAdd, Int.reduceToNat, absV, absC, scalar, alen, acap, conc, flats, live, blkOf, aload, rd, part?, afieldAddr, afield, aindexAddr, cellsOf, afill, places, abuild, optI, asliceV, asliceS, szOk, srcCells, aappend, astore, amakeSlice, abuildSlice, snapL, mapO, treeL, AVal.tree, AVal.flatT, isFlat, ares, lookupA, lookupH, tops, if_true, if_false, reduceCtorEq, forall_const, ite_true, ite_false, implies_true, walkS, tabS, Try.results63, hlt, List.take_length, hw]
theorem den_servers (s w h : Int) (sv lv : List Int) (h0 : 0 < sv.length) (hb : ∀ x ∈ sv, -1 ≤ x ∧ x ≤ 23) : Den Try.prog 64 [rasV s w h sv lv] (.i (mostOf (-1) sv + 1)) := by
  refine den_of_awp Try.func64 rfl (by kernel_rfl) (Nat.le_of_ble_eq_true rfl) (by simp only [treeL, AVal.tree, treeL_i, treeL_ints, treeL_append, Bool.and_self, Bool.and_true, Bool.true_and]) (by first | rfl | simp only [treeL, AVal.tree, treeL_i, treeL_ints, treeL_append, Bool.and_self, Bool.and_true, Bool.true_and]) mixed (by kernel_rfl) fun hl => ?_
  simp only [lensL, lens, lensL_i, lensL_mapC, maxI, and_true, true_and] at hl
  rw [Try.ntmps64]
  refine ex_start ?_
  have hm : mostOf (-1) sv ≤ 23 := by
    rcases mostOf_in sv (-1) with e | e
    · omega
    · exact (hb _ e).2
  have hm0 := (mostOf_ge sv (-1)).1
  have hw : IntKind.i64.wrap (mostOf (-1) sv + 1) = mostOf (-1) sv + 1 := wrap64 (by omega) (by omega)
  simp (config := {decide := true, maxSteps := 1000000}) only [nilQ, nilA, RechL, ReY, isNew, stepO, XPost, postN, XOk, updN, updU, isEff, avalue, aeff, ASt.eval, ASt.put, ASt.set, ASt.new, Nat.reduceDiv, Nat.reduceAdd, Int.reduceToNat, absV, absC, scalar, alen, acap, conc, flats, live, blkOf, aload, rd, part?, afieldAddr, afield, aindexAddr, cellsOf, afill, places, abuild, optI, asliceV, asliceS, szOk, srcCells, aappend, astore, amakeSlice, abuildSlice, snapL, mapO, treeL, AVal.tree, AVal.flatT, isFlat, ares, lookupA, lookupH, tops, if_true, if_false, reduceCtorEq, forall_const, ite_true, ite_false, implies_true, walkS, tabS, Try.results64]
  refine callK (den_Max sv h0) (by first | exact .inl rfl | exact .inr rfl) ?_
  simp (config := {decide := true, maxSteps := 1000000}) only [nilQ, nilA, RechL, ReY, isNew, stepO, XPost, postN, XOk, updN, updU, isEff, avalue, aeff, ASt.eval, ASt.put, ASt.set, ASt.new, Nat.reduceDiv, Nat.reduceAdd, Int.reduceToNat, absV, absC, scalar, alen, acap, conc, flats, live, blkOf, aload, rd, part?, afieldAddr, afield, aindexAddr, cellsOf, afill, places, abuild, optI, asliceV, asliceS, szOk, srcCells, aappend, astore, amakeSlice, abuildSlice, snapL, mapO, treeL, AVal.tree, AVal.flatT, isFlat, ares, lookupA, lookupH, tops, if_true, if_false, reduceCtorEq, forall_const, ite_true, ite_false, implies_true, walkS, tabS, Try.results64, mostOf_head h0 (fun x hx => (hb x hx).1), hw]
theorem ok_sv {s w h : Int} {sv lv : List Int} (h1 : OkRas s w h sv lv) : ∀ x ∈ sv, -1 ≤ x ∧ x ≤ 23 := by
  intro x hx
  obtain ⟨i, hi, rfl⟩ := List.getElem_of_mem hx
  exact (h1.2.2.2 i hi (by have := h1.2.2.1; omega)).1
noncomputable def scN (s w h : Int) (sv lv : List Int) : Nat := if bp (OkRas s w h sv lv) then (mostOf (-1) sv + 1).toNat else 0
def scG (sv : List Int) (c : Int) : Int := sv.getD c.toNat (-1)
noncomputable def scL (s w h : Int) (sv lv : List Int) : List Int := bumps (scG sv) (List.replicate (scN s w h sv lv) 0) (if bp (OkRas s w h sv lv) then cov sv else [])
theorem sc_yes {s w h : Int} {sv lv : List Int} (h1 : OkRas s w h sv lv) : ∃ n : Nat, n ≤ 24 ∧ mostOf (-1) sv + 1 = (n : Int) ∧ (∀ (i : Nat) (hi : i < sv.length), sv[i] < n) ∧ scL s w h sv lv = bumps (scG sv) (List.replicate n 0) (cov sv) := by
  have hb := ok_sv h1
  have hm0 := mostOf_ge sv (-1)
  have hm : mostOf (-1) sv ≤ 23 := by
    rcases mostOf_in sv (-1) with e | e
    · omega
    · exact (hb _ e).2
  refine ⟨(mostOf (-1) sv + 1).toNat, by omega, by omega, fun i hi => ?_, ?_⟩
  · have := hm0.2 _ (List.getElem_mem hi)
    omega
  · unfold scL scN
    rw [if_pos (by rw [bp_true]; exact h1), if_pos (by rw [bp_true]; exact h1)]
theorem sc_no {s w h : Int} {sv lv : List Int} (h1 : ¬ OkRas s w h sv lv) : scL s w h sv lv = [] := by
  unfold scL scN
  rw [if_neg (by rw [bp_true]; exact h1), if_neg (by rw [bp_true]; exact h1)]
  rfl
theorem sc_len (s w h : Int) (sv lv : List Int) : (scL s w h sv lv).length ≤ 24 := by
  by_cases h1 : OkRas s w h sv lv
  · obtain ⟨n, h2, _, _, e⟩ := sc_yes h1
    rw [e, bumps_length]
    simpa using h2
  · rw [sc_no h1]; simp
theorem den_specServerCells (s w h : Int) (sv lv : List Int) : Den Try.prog 37 [rasV s w h sv lv] (ints (scL s w h sv lv)) := by
  refine den_of_awp Try.func37 rfl (by kernel_rfl) (Nat.le_of_ble_eq_true rfl) (by simp only [treeL, AVal.tree, treeL_i, treeL_ints, treeL_append, Bool.and_self, Bool.and_true, Bool.true_and]) (by first | rfl | simp only [treeL, AVal.tree, treeL_i, treeL_ints, treeL_append, Bool.and_self, Bool.and_true, Bool.true_and]) mixed (by kernel_rfl) fun hl => ?_
  simp only [lensL, lens, lensL_i, lensL_mapC, maxI, and_true, true_and] at hl
  rw [Try.ntmps37]
  refine ex_start ?_
  by_cases h1 : OkRas s w h sv lv
  · obtain ⟨n, hn, en, hsv, e1⟩ := sc_yes h1
    rw [e1]
    simp (config := {decide := true, maxSteps := 1000000}) only [nilQ, nilA, RechL, ReY, isNew, stepO, XPost, postN, XOk, updN, updU, isEff, avalue, aeff, ASt.eval, ASt.put, ASt.set, ASt.new, Nat.reduceDiv, Nat.reduceAdd, Int.reduceToNat, absV, absC, scalar, alen, acap, conc, flats, live, blkOf, aload, rd, part?, afieldAddr, afield, aindexAddr, cellsOf, afill, places, abuild, optI, asliceV, asliceS, szOk, srcCells, aappend, astore, amakeSlice, abuildSlice, snapL, mapO, treeL, AVal.tree, AVal.flatT, isFlat, ares, lookupA, lookupH, tops, if_true, if_false, reduceCtorEq, forall_const, ite_true, ite_false, implies_true, walkS, tabS, Try.results37]
    refine callK (den_l20Ok s w h sv lv) (by first | exact .inl rfl | exact .inr rfl) ?_
    simp (config := {decide := true, maxSteps := 1000000}) only [nilQ, nilA, RechL, ReY, isNew, stepO, XPost, postN, XOk, updN, updU, isEff, avalue, aeff, ASt.eval, ASt.put, ASt.set, ASt.new, Nat.reduceDiv, Nat.reduceAdd, Int.reduceToNat, absV, absC, scalar, alen, acap, conc, flats, live, blkOf, aload, rd, part?, afieldAddr, afield, aindexAddr, cellsOf, afill, places, abuild, optI, asliceV, asliceS, szOk, srcCells, aappend, astore, amakeSlice, abuildSlice, snapL, mapO, treeL, AVal.tree, AVal.flatT, isFlat, ares, lookupA, lookupH, tops, if_true, if_false, reduceCtorEq, forall_const, ite_true, ite_false, implies_true, walkS, tabS, Try.results37, h1]
    refine callK (den_l21Most s w h sv lv (ok_sv h1)) (by first | exact .inl rfl | exact .inr rfl) ?_
    have h8 : (n : Int) * ((8 : Nat) : Int) ≤ 281474976710656 := by omega
    have h63 : (n : Int) ≤ 9223372036854775807 := by omega
    simp (config := {decide := true, maxSteps := 1000000}) only [nilQ, nilA, RechL, ReY, isNew, stepO, XPost, postN, XOk, updN, updU, isEff, avalue, aeff, ASt.eval, ASt.put, ASt.set, ASt.new, Nat.reduceDiv, Nat.reduceAdd, Int.reduceToNat, absV, absC, scalar, alen, acap, conc, flats, live, blkOf, aload, rd, part?, afieldAddr, afield, aindexAddr, cellsOf, afill, places, abuild, optI, asliceV, asliceS, szOk, srcCells, aappend, astore, amakeSlice, abuildSlice, snapL, mapO, treeL, AVal.tree, AVal.flatT, isFlat, ares, lookupA, lookupH, tops, if_true, if_false, reduceCtorEq, forall_const, ite_true, ite_false, implies_true, walkS, tabS, Try.results37, en, h8, h63]
    have q1 := (ok_pos h1).2
    have hlen := fun k => bumps_length (scG sv) (covK sv k) (List.replicate n 0)
    simp only [List.length_replicate] at hlen
    refine ex_loop (fun k : {k : Nat // k ≤ sv.length} => mk [(1, .ptr 1 0 0), (3, .own 8 1 0 n), (4, .i k)] [(1, ⟨0, 5, [.i s, .i w, .i h, ints sv, ints lv]⟩), (8, ⟨1, 1, mapC AVal.i (bumps (scG sv) (List.replicate n 0) (covK sv k))⟩)] 2 33) (fun k => sv.length - k) ⟨0, by simp⟩ ?_ ?_
    · refine weak_mk rfl (by first | exact Nat.le_refl _ | (simp only [mk_gen]; omega)) ?_ ?_ <;> simp (config := {decide := true}) only [w_lookup_nil, w_lookup_cons, ch_ch, ch_lit, lit_ch, wkT, wkH, wkB, WVL, WV_refl', Int.natCast_zero, Int.natCast_add, Int.natCast_one, Nat.sub_self, Nat.sub_zero, List.replicate_zero, List.take_zero, List.nil_append, List.append_nil, fillC_zero, Nat.reduceDiv, Nat.reduceAdd, upd_bk, bk_at, getB_zero, getB_succ, modB_zero, modB_succ, rows_lit, repB_zero, repB_succ, List.length_cons, List.length_nil, upd_upd_same, upd_apply, mk_tmp, mk_heap, mk_gen, lookupA, lookupH, List.getD_cons_zero, List.getD_cons_succ, init_two, tops, Bool.true_and, and_self, and_true, true_and, true_or, if_true, if_false, ite_true, ite_false, reduceCtorEq, reduceIte, covK, bumps, List.foldl_nil]
    · rintro ⟨k, hk⟩
      have hm : sv.length - (k + 1) < sv.length - k ∨ k = sv.length := by omega
      by_cases hlt : k < sv.length
      · have hw : IntKind.i64.wrap ((k : Int) + 1) = ((k + 1 : Nat) : Int) := wrap64 (by omega) (by omega)
        have hl := hlen k
        by_cases p1 : 0 ≤ sv[k]
        · obtain ⟨m, em⟩ : ∃ m : Nat, sv[k] = m := ⟨sv[k].toNat, by omega⟩
          have hmn : m < n := by have := hsv k hlt; omega
          have hml : m < (bumps (scG sv) (List.replicate n 0) (covK sv k)).length := by omega
          have p1' : (0 : Int) ≤ m := by omega
          simp (config := {decide := true, maxSteps := 1000000}) only [nilQ, nilA, RechL, ReY, isNew, stepO, XPost, postN, XOk, updN, updU, isEff, avalue, aeff, ASt.eval, ASt.put, ASt.set, ASt.new, Nat.reduceDiv, Nat.reduceAdd, Int.reduceToNat, absV, absC, scalar, alen, acap, conc, flats, live, blkOf, aload, rd, part?, afieldAddr, afield, aindexAddr, cellsOf, afill, places, abuild, optI, asliceV, asliceS, szOk, srcCells, aappend, astore, amakeSlice, abuildSlice, snapL, mapO, treeL, AVal.tree, AVal.flatT, isFlat, ares, lookupA, lookupH, tops, if_true, if_false, reduceCtorEq, forall_const, ite_true, ite_false, implies_true, walkS, tabS, Try.results37, hw, hlt, em, p1', hl, hmn, hml]
          refine ⟨⟨k + 1, hlt⟩, ?_, by show _ - (k + 1) < _ - k; omega⟩
          have eb : bumps (scG sv) (List.replicate n 0) (covK sv (k + 1)) = (bumps (scG sv) (List.replicate n 0) (covK sv k)).set m (IntKind.i64.wrap ((bumps (scG sv) (List.replicate n 0) (covK sv k))[m] + 1)) := by
            rw [covK_yes hlt p1, bumps_snoc, show scG sv (k : Int) = m by simp [scG, List.getD, hlt, em], bump_nat _ _ hml]
          refine weak_mk rfl (by first | exact Nat.le_refl _ | (simp only [mk_gen]; omega)) ?_ ?_ <;> simp (config := {decide := true}) only [w_lookup_nil, w_lookup_cons, ch_ch, ch_lit, lit_ch, wkT, wkH, wkB, WVL, WV_refl', Int.natCast_zero, Int.natCast_add, Int.natCast_one, Nat.sub_self, Nat.sub_zero, List.replicate_zero, List.take_zero, List.nil_append, List.append_nil, fillC_zero, Nat.reduceDiv, Nat.reduceAdd, upd_bk, bk_at, getB_zero, getB_succ, modB_zero, modB_succ, rows_lit, repB_zero, repB_succ, List.length_cons, List.length_nil, upd_upd_same, upd_apply, mk_tmp, mk_heap, mk_gen, lookupA, lookupH, List.getD_cons_zero, List.getD_cons_succ, init_two, tops, Bool.true_and, and_self, and_true, true_and, true_or, if_true, if_false, ite_true, ite_false, reduceCtorEq, reduceIte, eb]
        · simp (config := {decide := true, maxSteps := 1000000}) only [nilQ, nilA, RechL, ReY, isNew, stepO, XPost, postN, XOk, updN, updU, isEff, avalue, aeff, ASt.eval, ASt.put, ASt.set, ASt.new, Nat.reduceDiv, Nat.reduceAdd, Int.reduceToNat, absV, absC, scalar, alen, acap, conc, flats, live, blkOf, aload, rd, part?, afieldAddr, afield, aindexAddr, cellsOf, afill, places, abuild, optI, asliceV, asliceS, szOk, srcCells, aappend, astore, amakeSlice, abuildSlice, snapL, mapO, treeL, AVal.tree, AVal.flatT, isFlat, ares, lookupA, lookupH, tops, if_true, if_false, reduceCtorEq, forall_const, ite_true, ite_false, implies_true, walkS, tabS, Try.results37, hw, hlt, p1, hl]
          refine ⟨⟨k + 1, hlt⟩, ?_, by show _ - (k + 1) < _ - k; omega⟩
          refine weak_mk rfl (by first | exact Nat.le_refl _ | (simp only [mk_gen]; omega)) ?_ ?_ <;> simp (config := {decide := true}) only [w_lookup_nil, w_lookup_cons, ch_ch, ch_lit, lit_ch, wkT, wkH, wkB, WVL, WV_refl', Int.natCast_zero, Int.natCast_add, Int.natCast_one, Nat.sub_self, Nat.sub_zero, List.replicate_zero, List.take_zero, List.nil_append, List.append_nil, fillC_zero, Nat.reduceDiv, Nat.reduceAdd, upd_bk, bk_at, getB_zero, getB_succ, modB_zero, modB_succ, rows_lit, repB_zero, repB_succ, List.length_cons, List.length_nil, upd_upd_same, upd_apply, mk_tmp, mk_heap, mk_gen, lookupA, lookupH, List.getD_cons_zero, List.getD_cons_succ, init_two, tops, Bool.true_and, and_self, and_true, true_and, true_or, if_true, if_false, ite_true, ite_false, reduceCtorEq, reduceIte, covK_no hlt p1]
      · have e : k = sv.length := by omega
        subst e
        have hl := hlen sv.length
        have hl2 : (bumps (scG sv) (List.replicate n 0) (cov sv)).length = n := hl
        have htk : List.take n (bumps (scG sv) (List.replicate n 0) (cov sv)) = bumps (scG sv) (List.replicate n 0) (cov sv) := List.take_of_length_le (by omega)
        have ec : covK sv sv.length = cov sv := rfl
        simp (config := {decide := true, maxSteps := 1000000}) only [nilQ, nilA, RechL, ReY, isNew, stepO, XPost, postN, XOk, updN, updU, isEff, avalue, aeff, ASt.eval, ASt.put, ASt.set, ASt.new, Nat.reduceDiv, Nat.reduceAdd, Int.reduceToNat, absV, absC, scalar, alen, acap, conc, flats, live, blkOf, aload, rd, part?, afieldAddr, afield, aindexAddr, cellsOf, afill, places, abuild, optI, asliceV, asliceS, szOk, srcCells, aappend, astore, amakeSlice, abuildSlice, snapL, mapO, treeL, AVal.tree, AVal.flatT, isFlat, ares, lookupA, lookupH, tops, if_true, if_false, reduceCtorEq, forall_const, ite_true, ite_false, implies_true, walkS, tabS, Try.results37, hlt, ec, hl2, htk]
  · rw [sc_no h1]
    simp (config := {decide := true, maxSteps := 1000000}) only [nilQ, nilA, RechL, ReY, isNew, stepO, XPost, postN, XOk, updN, updU, isEff, avalue, aeff, ASt.eval, ASt.put, ASt.set, ASt.new, Nat.reduceDiv, Nat.reduceAdd, Int.reduceToNat, absV, absC, scalar, alen, acap, conc, flats, live, blkOf, aload, rd, part?, afieldAddr, afield, aindexAddr, cellsOf, afill, places, abuild, optI, asliceV, asliceS, szOk, srcCells, aappend, astore, amakeSlice, abuildSlice, snapL, mapO, treeL, AVal.tree, AVal.flatT, isFlat, ares, lookupA, lookupH, tops, if_true, if_false, reduceCtorEq, forall_const, ite_true, ite_false, implies_true, walkS, tabS, Try.results37]
    refine callK (den_l20Ok s w h sv lv) (by first | exact .inl rfl | exact .inr rfl) ?_
    simp (config := {decide := true, maxSteps := 1000000}) only [nilQ, nilA, RechL, ReY, isNew, stepO, XPost, postN, XOk, updN, updU, isEff, avalue, aeff, ASt.eval, ASt.put, ASt.set, ASt.new, Nat.reduceDiv, Nat.reduceAdd, Int.reduceToNat, absV, absC, scalar, alen, acap, conc, flats, live, blkOf, aload, rd, part?, afieldAddr, afield, aindexAddr, cellsOf, afill, places, abuild, optI, asliceV, asliceS, szOk, srcCells, aappend, astore, amakeSlice, abuildSlice, snapL, mapO, treeL, AVal.tree, AVal.flatT, isFlat, ares, lookupA, lookupH, tops, if_true, if_false, reduceCtorEq, forall_const, ite_true, ite_false, implies_true, walkS, tabS, Try.results37, h1, mapC_nil]
theorem denx_implServerCells (s w h : Int) (sv lv : List Int) : DenX Try.prog 38 [.v (rasV s w h sv lv)] [.v (rasV s w h sv lv)] (xints (scL s w h sv lv)) := by
  refine denx_of_awp Try.func38 rfl (by kernel_rfl) (Nat.le_of_ble_eq_true rfl) (by simp (config := {decide := true}) only [w_embA_nil, w_embA_cons, w_emb_v, w_emb_ol, w_emb_op, w_emb_agg, w_emb_tup, w_embL_nil, w_embL_cons, embL_i, List.map_cons, List.map_nil, List.nil_append, List.append_nil, List.cons_append, List.nodup_cons, List.nodup_nil, List.mem_cons, List.mem_nil_iff, List.not_mem_nil, ch_ch, ch_lit, lit_ch]) mixed (by kernel_rfl) fun hl => ?_
  simp only [xlensL, xlens, lensL, lens, lensL_i, lensL_mapC, xlensL_i, maxI, and_true, true_and] at hl
  rw [Try.ntmps38]
  refine ex_start ?_
  by_cases h1 : OkRas s w h sv lv
  · obtain ⟨n, hn, en, hsv, e1⟩ := sc_yes h1
    rw [e1]
    simp (config := {decide := true, maxSteps := 1000000}) only [nilQ, nilA, RechL, ReY, isNew, stepO, XPost, postN, XOk, updN, updU, isEff, avalue, aeff, ASt.eval, ASt.put, ASt.set, ASt.new, Nat.reduceDiv, Nat.reduceAdd, Int.reduceToNat, absV, absC, scalar, alen, acap, conc, flats, live, blkOf, aload, rd, part?, afieldAddr, afield, aindexAddr, cellsOf, afill, places, abuild, optI, asliceV, asliceS, szOk, srcCells, aappend, astore, amakeSlice, abuildSlice, snapL, mapO, treeL, AVal.tree, AVal.flatT, isFlat, ares, lookupA, lookupH, tops, if_true, if_false, reduceCtorEq, forall_const, ite_true, ite_false, implies_true, walkS, tabS, Try.results38]
    refine callK (den_ValidRaster s w h sv lv) (by first | exact .inl rfl | exact .inr rfl) ?_
    simp (config := {decide := true, maxSteps := 1000000}) only [nilQ, nilA, RechL, ReY, isNew, stepO, XPost, postN, XOk, updN, updU, isEff, avalue, aeff, ASt.eval, ASt.put, ASt.set, ASt.new, Nat.reduceDiv, Nat.reduceAdd, Int.reduceToNat, absV, absC, scalar, alen, acap, conc, flats, live, blkOf, aload, rd, part?, afieldAddr, afield, aindexAddr, cellsOf, afill, places, abuild, optI, asliceV, asliceS, szOk, srcCells, aappend, astore, amakeSlice, abuildSlice, snapL, mapO, treeL, AVal.tree, AVal.flatT, isFlat, ares, lookupA, lookupH, tops, if_true, if_false, reduceCtorEq, forall_const, ite_true, ite_false, implies_true, walkS, tabS, Try.results38, h1]
    have q1 := ok_pos h1
    refine callK (den_servers s w h sv lv (by omega) (ok_sv h1)) (by first | exact .inl rfl | exact .inr rfl) ?_
    have h8 : (n : Int) * ((8 : Nat) : Int) ≤ 281474976710656 := by omega
    have h63 : (n : Int) ≤ 9223372036854775807 := by omega
    simp (config := {decide := true, maxSteps := 1000000}) only [nilQ, nilA, RechL, ReY, isNew, stepO, XPost, postN, XOk, updN, updU, isEff, avalue, aeff, ASt.eval, ASt.put, ASt.set, ASt.new, Nat.reduceDiv, Nat.reduceAdd, Int.reduceToNat, absV, absC, scalar, alen, acap, conc, flats, live, blkOf, aload, rd, part?, afieldAddr, afield, aindexAddr, cellsOf, afill, places, abuild, optI, asliceV, asliceS, szOk, srcCells, aappend, astore, amakeSlice, abuildSlice, snapL, mapO, treeL, AVal.tree, AVal.flatT, isFlat, ares, lookupA, lookupH, tops, if_true, if_false, reduceCtorEq, forall_const, ite_true, ite_false, implies_true, walkS, tabS, Try.results38, en, h8, h63]
    refine callK (den_covered s w h sv lv (by omega)) (by first | exact .inl rfl | exact .inr rfl) ?_
    simp (config := {decide := true, maxSteps := 1000000}) only [nilQ, nilA, RechL, ReY, isNew, stepO, XPost, postN, XOk, updN, updU, isEff, avalue, aeff, ASt.eval, ASt.put, ASt.set, ASt.new, Nat.reduceDiv, Nat.reduceAdd, Int.reduceToNat, absV, absC, scalar, alen, acap, conc, flats, live, blkOf, aload, rd, part?, afieldAddr, afield, aindexAddr, cellsOf, afill, places, abuild, optI, asliceV, asliceS, szOk, srcCells, aappend, astore, amakeSlice, abuildSlice, snapL, mapO, treeL, AVal.tree, AVal.flatT, isFlat, ares, lookupA, lookupH, tops, if_true, if_false, reduceCtorEq, forall_const, ite_true, ite_false, implies_true, walkS, tabS, Try.results38]
    have hlen := fun k => bumps_length (scG sv) ((cov sv).take k) (List.replicate n 0)
    simp only [List.length_replicate] at hlen
    refine ex_loop (fun k : {k : Nat // k ≤ (cov sv).length} => mk [(1, .ptr 1 1 0), (3, .own 11 2 0 n), (13, ints (cov sv)), (14, .i (cov sv).length), (15, .i k)] [(1, ⟨1, 5, [.i s, .i w, .i h, ints sv, ints lv]⟩), (11, ⟨2, 1, mapC AVal.i (bumps (scG sv) (List.replicate n 0) ((cov sv).take k))⟩)] 3 31) (fun k => (cov sv).length - k) ⟨0, by simp⟩ ?_ ?_
    · refine weak_mk rfl (by first | exact Nat.le_refl _ | (simp only [mk_gen]; omega)) ?_ ?_ <;> simp (config := {decide := true}) only [w_lookup_nil, w_lookup_cons, ch_ch, ch_lit, lit_ch, wkT, wkH, wkB, WVL, WV_refl', Int.natCast_zero, Int.natCast_add, Int.natCast_one, Nat.sub_self, Nat.sub_zero, List.replicate_zero, List.take_zero, List.nil_append, List.append_nil, fillC_zero, Nat.reduceDiv, Nat.reduceAdd, upd_bk, bk_at, getB_zero, getB_succ, modB_zero, modB_succ, rows_lit, repB_zero, repB_succ, List.length_cons, List.length_nil, upd_upd_same, upd_apply, mk_tmp, mk_heap, mk_gen, lookupA, lookupH, List.getD_cons_zero, List.getD_cons_succ, init_two, tops, Bool.true_and, and_self, and_true, true_and, true_or, if_true, if_false, ite_true, ite_false, reduceCtorEq, reduceIte, bumps, List.foldl_nil]
    · rintro ⟨k, hk⟩
      by_cases hlt : k < (cov sv).length
      · have hc := covK_le sv sv.length
        have hc' : (cov sv).length ≤ sv.length := hc
        have hw : IntKind.i64.wrap ((k : Int) + 1) = ((k + 1 : Nat) : Int) := wrap64 (by omega) (by omega)
        have hl := hlen k
        obtain ⟨c, ec, hcl, hc0⟩ := cov_get2 hlt
        obtain ⟨m, em⟩ : ∃ m : Nat, sv[c] = m := ⟨sv[c].toNat, by omega⟩
        have hmn : m < n := by have := hsv c hcl; omega
        have hml : m < (bumps (scG sv) (List.replicate n 0) ((cov sv).take k)).length := by omega
        simp (config := {decide := true, maxSteps := 1000000}) only [nilQ, nilA, RechL, ReY, isNew, stepO, XPost, postN, XOk, updN, updU, isEff, avalue, aeff, ASt.eval, ASt.put, ASt.set, ASt.new, Nat.reduceDiv, Nat.reduceAdd, Int.reduceToNat, absV, absC, scalar, alen, acap, conc, flats, live, blkOf, aload, rd, part?, afieldAddr, afield, aindexAddr, cellsOf, afill, places, abuild, optI, asliceV, asliceS, szOk, srcCells, aappend, astore, amakeSlice, abuildSlice, snapL, mapO, treeL, AVal.tree, AVal.flatT, isFlat, ares, lookupA, lookupH, tops, if_true, if_false, reduceCtorEq, forall_const, ite_true, ite_false, implies_true, walkS, tabS, Try.results38, hw, hlt, ec, hcl, em, hl, hmn, hml]
        refine ⟨⟨k + 1, hlt⟩, ?_, by show _ - (k + 1) < _ - k; omega⟩
        have eb : bumps (scG sv) (List.replicate n 0) ((cov sv).take (k + 1)) = (bumps (scG sv) (List.replicate n 0) ((cov sv).take k)).set m (IntKind.i64.wrap ((bumps (scG sv) (List.replicate n 0) ((cov sv).take k))[m] + 1)) := by
          rw [List.take_succ_eq_append_getElem hlt, bumps_snoc, ec, show scG sv (c : Int) = m by simp [scG, List.getD, hcl, em], bump_nat _ _ hml]
        refine weak_mk rfl (by first | exact Nat.le_refl _ | (simp only [mk_gen]; omega)) ?_ ?_ <;> simp (config := {decide := true}) only [w_lookup_nil, w_lookup_cons, ch_ch, ch_lit, lit_ch, wkT, wkH, wkB, WVL, WV_refl', Int.natCast_zero, Int.natCast_add, Int.natCast_one, Nat.sub_self, Nat.sub_zero, List.replicate_zero, List.take_zero, List.nil_append, List.append_nil, fillC_zero, Nat.reduceDiv, Nat.reduceAdd, upd_bk, bk_at, getB_zero, getB_succ, modB_zero, modB_succ, rows_lit, repB_zero, repB_succ, List.length_cons, List.length_nil, upd_upd_same, upd_apply, mk_tmp, mk_heap, mk_gen, lookupA, lookupH, List.getD_cons_zero, List.getD_cons_succ, init_two, tops, Bool.true_and, and_self, and_true, true_and, true_or, if_true, if_false, ite_true, ite_false, reduceCtorEq, reduceIte, eb]
      · have e : k = (cov sv).length := by omega
        subst e
        have hl := hlen (cov sv).length
        rw [List.take_length] at hl
        have htk : List.take n (bumps (scG sv) (List.replicate n 0) (cov sv)) = bumps (scG sv) (List.replicate n 0) (cov sv) := List.take_of_length_le (by omega)
        simp (config := {decide := true, maxSteps := 1000000}) only [nilQ, nilA, RechL, ReY, isNew, stepO, XPost, postN, XOk, updN, updU, isEff, avalue, aeff, ASt.eval, ASt.put, ASt.set, ASt.new, Nat.reduceDiv, Nat.reduceAdd, Int.reduceToNat, absV, absC, scalar, alen, acap, conc, flats, live, blkOf, aload, rd, part?, afieldAddr, afield, aindexAddr, cellsOf, afill, places, abuild, optI, asliceV, asliceS, szOk, srcCells, aappend, astore, amakeSlice, abuildSlice, snapL, mapO, treeL, AVal.tree, AVal.flatT, isFlat, ares, lookupA, lookupH, tops, if_true, if_false, reduceCtorEq, forall_const, ite_true, ite_false, implies_true, walkS, tabS, Try.results38, hlt, hl, htk, List.take_length]
  · rw [sc_no h1]
    simp (config := {decide := true, maxSteps := 1000000}) only [nilQ, nilA, RechL, ReY, isNew, stepO, XPost, postN, XOk, updN, updU, isEff, avalue, aeff, ASt.eval, ASt.put, ASt.set, ASt.new, Nat.reduceDiv, Nat.reduceAdd, Int.reduceToNat, absV, absC, scalar, alen, acap, conc, flats, live, blkOf, aload, rd, part?, afieldAddr, afield, aindexAddr, cellsOf, afill, places, abuild, optI, asliceV, asliceS, szOk, srcCells, aappend, astore, amakeSlice, abuildSlice, snapL, mapO, treeL, AVal.tree, AVal.flatT, isFlat, ares, lookupA, lookupH, tops, if_true, if_false, reduceCtorEq, forall_const, ite_true, ite_false, implies_true, walkS, tabS, Try.results38]
    refine callK (den_ValidRaster s w h sv lv) (by first | exact .inl rfl | exact .inr rfl) ?_
    simp (config := {decide := true, maxSteps := 1000000}) only [nilQ, nilA, RechL, ReY, isNew, stepO, XPost, postN, XOk, updN, updU, isEff, avalue, aeff, ASt.eval, ASt.put, ASt.set, ASt.new, Nat.reduceDiv, Nat.reduceAdd, Int.reduceToNat, absV, absC, scalar, alen, acap, conc, flats, live, blkOf, aload, rd, part?, afieldAddr, afield, aindexAddr, cellsOf, afill, places, abuild, optI, asliceV, asliceS, szOk, srcCells, aappend, astore, amakeSlice, abuildSlice, snapL, mapO, treeL, AVal.tree, AVal.flatT, isFlat, ares, lookupA, lookupH, tops, if_true, if_false, reduceCtorEq, forall_const, ite_true, ite_false, implies_true, walkS, tabS, Try.results38, h1, mapC_nil]
end Go.Proofs.Ytdbongnhdlbplaa
