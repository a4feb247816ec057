/-
  OWN WORK: covered cells counted by their levels.
-/
import Derived.Test.YtdbongnhdlbplaaRaH
namespace Go.Proofs.Ytdbongnhdlbplaa
open Go Go.Own Go.Proofs
set_option maxHeartbeats 4000000
set_option maxRecDepth 20000
set_option linter.unusedSimpArgs false
def HisOk (low step many : Int) : Prop := LevOk low ∧ (1 ≤ step ∧ step ≤ 300000) ∧ (1 ≤ many ∧ many ≤ 64)
/-- the bar of a cell; none: -1 -/
def hisG (lv : List Int) (low step : Int) (c : Int) : Int := if lv.getD c.toNat 0 < low then -1 else (lv.getD c.toNat 0 - low).tdiv step
noncomputable def hisL (s w h : Int) (sv lv : List Int) (low step many : Int) : List Int := if bp (OkRas s w h sv lv ∧ HisOk low step many) then bumps (hisG lv low step) (List.replicate many.toNat 0) (cov sv) else []
noncomputable def hisC (s w h : Int) (sv lv : List Int) (low step many : Int) : Int := if bp (OkRas s w h sv lv) then (if bp (HisOk low step many) then 0 else 2) else 1
section
variable {s w h : Int} {sv lv : List Int} {low step many : Int}
theorem his_yes (h1 : OkRas s w h sv lv) (h2 : HisOk low step many) : hisL s w h sv lv low step many = bumps (hisG lv low step) (List.replicate many.toNat 0) (cov sv) ∧ hisC s w h sv lv low step many = 0 := by
  unfold hisL hisC
  rw [if_pos (by rw [bp_true]; exact ⟨h1, h2⟩), if_pos (by rw [bp_true]; exact h1), if_pos (by rw [bp_true]; exact h2)]
  exact ⟨rfl, rfl⟩
theorem his_bad (h1 : OkRas s w h sv lv) (h2 : ¬ HisOk low step many) : hisL s w h sv lv low step many = [] ∧ hisC s w h sv lv low step many = 2 := by
  unfold hisL hisC
  rw [if_neg (by rw [bp_true]; exact fun h => h2 h.2), if_pos (by rw [bp_true]; exact h1), if_neg (by rw [bp_true]; exact h2)]
  exact ⟨rfl, rfl⟩
theorem his_no (h1 : ¬ OkRas s w h sv lv) : hisL s w h sv lv low step many = [] ∧ hisC s w h sv lv low step many = 1 := by
  unfold hisL hisC
  rw [if_neg (by rw [bp_true]; exact fun h => h1 h.1), if_neg (by rw [bp_true]; exact h1)]
  exact ⟨rfl, rfl⟩
theorem his_len (s w h : Int) (sv lv : List Int) (low step many : Int) : (hisL s w h sv lv low step many).length ≤ 1000000000000 := by
  by_cases h1 : OkRas s w h sv lv ∧ HisOk low step many
  · rw [(his_yes h1.1 h1.2).1, bumps_length]
    have := h1.2.2.2
    simp
    omega
  · unfold hisL
    rw [if_neg (by rw [bp_true]; exact h1)]
    simp
theorem ok_lv (h1 : OkRas s w h sv lv) (i : Nat) (hi : i < lv.length) : -300000 ≤ lv[i] ∧ lv[i] ≤ 300000 := (h1.2.2.2 i (by have := h1.2.2.1; omega) hi).2.1
/-- where a level stands among the bars -/
theorem bar_lt (hs : 1 ≤ step ∧ step ≤ 300000) (x : Int) (h0 : low ≤ x) : ∃ n : Nat, (x - low).tdiv step = n ∧ ((n : Int) < many ↔ x ≤ low + many * step - 1) ∧ (n : Int) ≤ x - low := by
  have e : (x - low).tdiv step = (x - low) / step := Int.tdiv_eq_ediv_of_nonneg (by omega)
  have hn : 0 ≤ (x - low) / step := Int.ediv_nonneg (by omega) (by omega)
  refine ⟨((x - low) / step).toNat, by rw [e]; omega, ?_, ?_⟩
  · rw [Int.toNat_of_nonneg hn, Int.ediv_lt_iff_lt_mul (by omega)]
    omega
  · rw [Int.toNat_of_nonneg hn]
    exact Int.ediv_le_self _ (by omega)
theorem bars_bound (h : HisOk low step many) : 1 ≤ many * step ∧ many * step ≤ 19200000 := by
  have a := Int.mul_le_mul (a := many) (b := step) (c := 64) (d := 300000) h.2.2.2 h.2.1.2 (by have := h.2.1; omega) (by omega)
  have b := Int.mul_le_mul (a := 1) (b := 1) (c := many) (d := step) h.2.2.1 h.2.1.1 (by omega) (by have := h.2.2; omega)
  omega
end
theorem den_specHistogramOf (s w h : Int) (sv lv : List Int) (low step many : Int) : Den Try.prog 32 [rasV s w h sv lv, .i low, .i step, .i many] (.tup [ints (hisL s w h sv lv low step many), .i (hisC s w h sv lv low step many)]) := by
  refine den_of_awp Try.func32 rfl (by kernel_rfl) (Nat.le_of_ble_eq_true rfl) (by simp only [treeL, AVal.tree, treeL_i, treeL_ints, treeL_append, Bool.and_self, Bool.and_true, Bool.true_and]) (by first | rfl | simp only [treeL, AVal.tree, treeL_i, treeL_ints, treeL_append, Bool.and_self, Bool.and_true, Bool.true_and]) mixed (by kernel_rfl) fun hl => ?_
  simp only [lensL, lens, lensL_i, lensL_mapC, maxI, and_true, true_and] at hl
  rw [Try.ntmps32]
  refine ex_start ?_
  by_cases h1 : OkRas s w h sv lv
  · simp (config := {decide := true, maxSteps := 1000000}) only [nilQ, nilA, RechL, ReY, isNew, stepO, XPost, postN, XOk, updN, updU, isEff, avalue, aeff, ASt.eval, ASt.put, ASt.set, ASt.new, Nat.reduceDiv, Nat.reduceAdd, Int.reduceToNat, absV, absC, scalar, alen, acap, conc, flats, live, blkOf, aload, rd, part?, afieldAddr, afield, aindexAddr, cellsOf, afill, places, abuild, optI, asliceV, asliceS, szOk, srcCells, aappend, astore, amakeSlice, abuildSlice, snapL, mapO, treeL, AVal.tree, AVal.flatT, isFlat, ares, lookupA, lookupH, tops, if_true, if_false, reduceCtorEq, forall_const, ite_true, ite_false, implies_true, walkS, tabS, Try.results32]
    refine callK (den_l20Ok s w h sv lv) (by first | exact .inl rfl | exact .inr rfl) ?_
    simp (config := {decide := true, maxSteps := 1000000}) only [nilQ, nilA, RechL, ReY, isNew, stepO, XPost, postN, XOk, updN, updU, isEff, avalue, aeff, ASt.eval, ASt.put, ASt.set, ASt.new, Nat.reduceDiv, Nat.reduceAdd, Int.reduceToNat, absV, absC, scalar, alen, acap, conc, flats, live, blkOf, aload, rd, part?, afieldAddr, afield, aindexAddr, cellsOf, afill, places, abuild, optI, asliceV, asliceS, szOk, srcCells, aappend, astore, amakeSlice, abuildSlice, snapL, mapO, treeL, AVal.tree, AVal.flatT, isFlat, ares, lookupA, lookupH, tops, if_true, if_false, reduceCtorEq, forall_const, ite_true, ite_false, implies_true, walkS, tabS, Try.results32, h1]
    refine callK (den_l02Level low) (by first | exact .inl rfl | exact .inr rfl) ?_
    by_cases h2 : HisOk low step many
    · obtain ⟨e1, e2⟩ := his_yes h1 h2
      rw [e1, e2]
      have h2' : -300000 ≤ low ∧ low ≤ 300000 := h2.1
      simp (config := {decide := true, maxSteps := 1000000}) only [nilQ, nilA, RechL, ReY, isNew, stepO, XPost, postN, XOk, updN, updU, isEff, avalue, aeff, ASt.eval, ASt.put, ASt.set, ASt.new, Nat.reduceDiv, Nat.reduceAdd, Int.reduceToNat, absV, absC, scalar, alen, acap, conc, flats, live, blkOf, aload, rd, part?, afieldAddr, afield, aindexAddr, cellsOf, afill, places, abuild, optI, asliceV, asliceS, szOk, srcCells, aappend, astore, amakeSlice, abuildSlice, snapL, mapO, treeL, AVal.tree, AVal.flatT, isFlat, ares, lookupA, lookupH, tops, if_true, if_false, reduceCtorEq, forall_const, ite_true, ite_false, implies_true, walkS, tabS, Try.results32, h2']
      refine callK (den_l00In step 1 300000) (by first | exact .inl rfl | exact .inr rfl) ?_
      simp (config := {decide := true, maxSteps := 1000000}) only [nilQ, nilA, RechL, ReY, isNew, stepO, XPost, postN, XOk, updN, updU, isEff, avalue, aeff, ASt.eval, ASt.put, ASt.set, ASt.new, Nat.reduceDiv, Nat.reduceAdd, Int.reduceToNat, absV, absC, scalar, alen, acap, conc, flats, live, blkOf, aload, rd, part?, afieldAddr, afield, aindexAddr, cellsOf, afill, places, abuild, optI, asliceV, asliceS, szOk, srcCells, aappend, astore, amakeSlice, abuildSlice, snapL, mapO, treeL, AVal.tree, AVal.flatT, isFlat, ares, lookupA, lookupH, tops, if_true, if_false, reduceCtorEq, forall_const, ite_true, ite_false, implies_true, walkS, tabS, Try.results32, h2.2.1]
      refine callK (den_l00In many 1 64) (by first | exact .inl rfl | exact .inr rfl) ?_
      obtain ⟨n, en⟩ : ∃ n : Nat, many = n := ⟨many.toNat, by have := h2.2.2; omega⟩
      have hb := h2.2.2
      subst en
      have h8 : (n : Int) * ((8 : Nat) : Int) ≤ 281474976710656 := by omega
      have h63 : (n : Int) ≤ 9223372036854775807 := by omega
      simp (config := {decide := true, maxSteps := 1000000}) only [nilQ, nilA, RechL, ReY, isNew, stepO, XPost, postN, XOk, updN, updU, isEff, avalue, aeff, ASt.eval, ASt.put, ASt.set, ASt.new, Nat.reduceDiv, Nat.reduceAdd, Int.reduceToNat, absV, absC, scalar, alen, acap, conc, flats, live, blkOf, aload, rd, part?, afieldAddr, afield, aindexAddr, cellsOf, afill, places, abuild, optI, asliceV, asliceS, szOk, srcCells, aappend, astore, amakeSlice, abuildSlice, snapL, mapO, treeL, AVal.tree, AVal.flatT, isFlat, ares, lookupA, lookupH, tops, if_true, if_false, reduceCtorEq, forall_const, ite_true, ite_false, implies_true, walkS, tabS, Try.results32, hb, h8, h63]
      have q1 := (ok_pos h1).2
      have q2 := h1.2.2.1
      have hlen := fun k => bumps_length (hisG lv low step) (covK sv k) (List.replicate n 0)
      simp only [List.length_replicate] at hlen
      refine ex_loop (fun k : {k : Nat // k ≤ sv.length} => mk [(1, .i low), (2, .i step), (3, .i n), (4, .ptr 4 0 0), (10, .own 29 1 0 n), (11, .i k)] [(4, ⟨0, 5, [.i s, .i w, .i h, ints sv, ints lv]⟩), (29, ⟨1, 1, mapC AVal.i (bumps (hisG lv low step) (List.replicate n 0) (covK sv k))⟩)] 2 71) (fun k => sv.length - k) ⟨0, by simp⟩ ?_ ?_
      · refine weak_mk rfl (by first | exact Nat.le_refl _ | (simp only [mk_gen]; omega)) ?_ ?_ <;> simp (config := {decide := true}) only [w_lookup_nil, w_lookup_cons, ch_ch, ch_lit, lit_ch, wkT, wkH, wkB, WVL, WV_refl', Int.natCast_zero, Int.natCast_add, Int.natCast_one, Nat.sub_self, Nat.sub_zero, List.replicate_zero, List.take_zero, List.nil_append, List.append_nil, fillC_zero, Nat.reduceDiv, Nat.reduceAdd, upd_bk, bk_at, getB_zero, getB_succ, modB_zero, modB_succ, rows_lit, repB_zero, repB_succ, List.length_cons, List.length_nil, upd_upd_same, upd_apply, mk_tmp, mk_heap, mk_gen, lookupA, lookupH, List.getD_cons_zero, List.getD_cons_succ, init_two, tops, Bool.true_and, and_self, and_true, true_and, true_or, if_true, if_false, ite_true, ite_false, reduceCtorEq, reduceIte, covK, bumps, List.foldl_nil]
      · rintro ⟨k, hk⟩
        by_cases hlt : k < sv.length
        · have hlt' : k < lv.length := by omega
          have hw : IntKind.i64.wrap ((k : Int) + 1) = ((k + 1 : Nat) : Int) := wrap64 (by omega) (by omega)
          have hl := hlen k
          have hm : sv.length - (k + 1) < sv.length - k := by omega
          by_cases p1 : sv[k] < 0
          · simp (config := {decide := true, maxSteps := 1000000}) only [nilQ, nilA, RechL, ReY, isNew, stepO, XPost, postN, XOk, updN, updU, isEff, avalue, aeff, ASt.eval, ASt.put, ASt.set, ASt.new, Nat.reduceDiv, Nat.reduceAdd, Int.reduceToNat, absV, absC, scalar, alen, acap, conc, flats, live, blkOf, aload, rd, part?, afieldAddr, afield, aindexAddr, cellsOf, afill, places, abuild, optI, asliceV, asliceS, szOk, srcCells, aappend, astore, amakeSlice, abuildSlice, snapL, mapO, treeL, AVal.tree, AVal.flatT, isFlat, ares, lookupA, lookupH, tops, if_true, if_false, reduceCtorEq, forall_const, ite_true, ite_false, implies_true, walkS, tabS, Try.results32, hw, hlt, hlt', p1, hl]
            refine ⟨⟨k + 1, hlt⟩, ?_, hm⟩
            refine weak_mk rfl (by first | exact Nat.le_refl _ | (simp only [mk_gen]; omega)) ?_ ?_ <;> simp (config := {decide := true}) only [w_lookup_nil, w_lookup_cons, ch_ch, ch_lit, lit_ch, wkT, wkH, wkB, WVL, WV_refl', Int.natCast_zero, Int.natCast_add, Int.natCast_one, Nat.sub_self, Nat.sub_zero, List.replicate_zero, List.take_zero, List.nil_append, List.append_nil, fillC_zero, Nat.reduceDiv, Nat.reduceAdd, upd_bk, bk_at, getB_zero, getB_succ, modB_zero, modB_succ, rows_lit, repB_zero, repB_succ, List.length_cons, List.length_nil, upd_upd_same, upd_apply, mk_tmp, mk_heap, mk_gen, lookupA, lookupH, List.getD_cons_zero, List.getD_cons_succ, init_two, tops, Bool.true_and, and_self, and_true, true_and, true_or, if_true, if_false, ite_true, ite_false, reduceCtorEq, reduceIte, covK_no hlt (show ¬ 0 ≤ sv[k] by omega)]
          · have p1' : 0 ≤ sv[k] := by omega
            have hv := ok_lv h1 k hlt'
            by_cases p2 : lv[k] < low
            · simp (config := {decide := true, maxSteps := 1000000}) only [nilQ, nilA, RechL, ReY, isNew, stepO, XPost, postN, XOk, updN, updU, isEff, avalue, aeff, ASt.eval, ASt.put, ASt.set, ASt.new, Nat.reduceDiv, Nat.reduceAdd, Int.reduceToNat, absV, absC, scalar, alen, acap, conc, flats, live, blkOf, aload, rd, part?, afieldAddr, afield, aindexAddr, cellsOf, afill, places, abuild, optI, asliceV, asliceS, szOk, srcCells, aappend, astore, amakeSlice, abuildSlice, snapL, mapO, treeL, AVal.tree, AVal.flatT, isFlat, ares, lookupA, lookupH, tops, if_true, if_false, reduceCtorEq, forall_const, ite_true, ite_false, implies_true, walkS, tabS, Try.results32, hw, hlt, hlt', p1, p2, hl]
              refine ⟨⟨k + 1, hlt⟩, ?_, hm⟩
              have eb : bumps (hisG lv low step) (List.replicate n 0) (covK sv (k + 1)) = bumps (hisG lv low step) (List.replicate n 0) (covK sv k) := by
                rw [covK_yes hlt p1', bumps_snoc, bump_out _ _ (.inl (by simp [hisG, List.getD, hlt', p2]))]
              refine weak_mk rfl (by first | exact Nat.le_refl _ | (simp only [mk_gen]; omega)) ?_ ?_ <;> simp (config := {decide := true}) only [w_lookup_nil, w_lookup_cons, ch_ch, ch_lit, lit_ch, wkT, wkH, wkB, WVL, WV_refl', Int.natCast_zero, Int.natCast_add, Int.natCast_one, Nat.sub_self, Nat.sub_zero, List.replicate_zero, List.take_zero, List.nil_append, List.append_nil, fillC_zero, Nat.reduceDiv, Nat.reduceAdd, upd_bk, bk_at, getB_zero, getB_succ, modB_zero, modB_succ, rows_lit, repB_zero, repB_succ, List.length_cons, List.length_nil, upd_upd_same, upd_apply, mk_tmp, mk_heap, mk_gen, lookupA, lookupH, List.getD_cons_zero, List.getD_cons_succ, init_two, tops, Bool.true_and, and_self, and_true, true_and, true_or, if_true, if_false, ite_true, ite_false, reduceCtorEq, reduceIte, eb]
            · obtain ⟨m, em, hm1, hm2⟩ := bar_lt (low := low) (many := n) h2.2.1 lv[k] (by omega)
              have hw2 : IntKind.i64.wrap (lv[k] - low) = lv[k] - low := wrap64 (by omega) (by omega)
              have hw3 : IntKind.i64.wrap (m : Int) = m := wrap64 (by omega) (by omega)
              have hq : step ≠ 0 := by have := h2.2.1; omega
              have eg : hisG lv low step (k : Int) = m := by simp [hisG, List.getD, hlt', p2, em]
              by_cases p3 : m < n
              · have hml : m < (bumps (hisG lv low step) (List.replicate n 0) (covK sv k)).length := by omega
                simp (config := {decide := true, maxSteps := 1000000}) only [nilQ, nilA, RechL, ReY, isNew, stepO, XPost, postN, XOk, updN, updU, isEff, avalue, aeff, ASt.eval, ASt.put, ASt.set, ASt.new, Nat.reduceDiv, Nat.reduceAdd, Int.reduceToNat, absV, absC, scalar, alen, acap, conc, flats, live, blkOf, aload, rd, part?, afieldAddr, afield, aindexAddr, cellsOf, afill, places, abuild, optI, asliceV, asliceS, szOk, srcCells, aappend, astore, amakeSlice, abuildSlice, snapL, mapO, treeL, AVal.tree, AVal.flatT, isFlat, ares, lookupA, lookupH, tops, if_true, if_false, reduceCtorEq, forall_const, ite_true, ite_false, implies_true, walkS, tabS, Try.results32, hw, hlt, hlt', p1, p2, hl, hw2, hw3, hq, sem_quo, em, p3, hml]
                refine ⟨⟨k + 1, hlt⟩, ?_, hm⟩
                have eb : bumps (hisG lv low step) (List.replicate n 0) (covK sv (k + 1)) = (bumps (hisG lv low step) (List.replicate n 0) (covK sv k)).set m (IntKind.i64.wrap ((bumps (hisG lv low step) (List.replicate n 0) (covK sv k))[m] + 1)) := by
                  rw [covK_yes hlt p1', bumps_snoc, eg, bump_nat _ _ hml]
                refine weak_mk rfl (by first | exact Nat.le_refl _ | (simp only [mk_gen]; omega)) ?_ ?_ <;> simp (config := {decide := true}) only [w_lookup_nil, w_lookup_cons, ch_ch, ch_lit, lit_ch, wkT, wkH, wkB, WVL, WV_refl', Int.natCast_zero, Int.natCast_add, Int.natCast_one, Nat.sub_self, Nat.sub_zero, List.replicate_zero, List.take_zero, List.nil_append, List.append_nil, fillC_zero, Nat.reduceDiv, Nat.reduceAdd, upd_bk, bk_at, getB_zero, getB_succ, modB_zero, modB_succ, rows_lit, repB_zero, repB_succ, List.length_cons, List.length_nil, upd_upd_same, upd_apply, mk_tmp, mk_heap, mk_gen, lookupA, lookupH, List.getD_cons_zero, List.getD_cons_succ, init_two, tops, Bool.true_and, and_self, and_true, true_and, true_or, if_true, if_false, ite_true, ite_false, reduceCtorEq, reduceIte, eb]
              · simp (config := {decide := true, maxSteps := 1000000}) only [nilQ, nilA, RechL, ReY, isNew, stepO, XPost, postN, XOk, updN, updU, isEff, avalue, aeff, ASt.eval, ASt.put, ASt.set, ASt.new, Nat.reduceDiv, Nat.reduceAdd, Int.reduceToNat, absV, absC, scalar, alen, acap, conc, flats, live, blkOf, aload, rd, part?, afieldAddr, afield, aindexAddr, cellsOf, afill, places, abuild, optI, asliceV, asliceS, szOk, srcCells, aappend, astore, amakeSlice, abuildSlice, snapL, mapO, treeL, AVal.tree, AVal.flatT, isFlat, ares, lookupA, lookupH, tops, if_true, if_false, reduceCtorEq, forall_const, ite_true, ite_false, implies_true, walkS, tabS, Try.results32, hw, hlt, hlt', p1, p2, hl, hw2, hw3, hq, sem_quo, em, p3]
                refine ⟨⟨k + 1, hlt⟩, ?_, hm⟩
                have eb : bumps (hisG lv low step) (List.replicate n 0) (covK sv (k + 1)) = bumps (hisG lv low step) (List.replicate n 0) (covK sv k) := by
                  rw [covK_yes hlt p1', bumps_snoc, bump_out _ _ (.inr (by rw [eg]; omega))]
                refine weak_mk rfl (by first | exact Nat.le_refl _ | (simp only [mk_gen]; omega)) ?_ ?_ <;> simp (config := {decide := true}) only [w_lookup_nil, w_lookup_cons, ch_ch, ch_lit, lit_ch, wkT, wkH, wkB, WVL, WV_refl', Int.natCast_zero, Int.natCast_add, Int.natCast_one, Nat.sub_self, Nat.sub_zero, List.replicate_zero, List.take_zero, List.nil_append, List.append_nil, fillC_zero, Nat.reduceDiv, Nat.reduceAdd, upd_bk, bk_at, getB_zero, getB_succ, modB_zero, modB_succ, rows_lit, repB_zero, repB_succ, List.length_cons, List.length_nil, upd_upd_same, upd_apply, mk_tmp, mk_heap, mk_gen, lookupA, lookupH, List.getD_cons_zero, List.getD_cons_succ, init_two, tops, Bool.true_and, and_self, and_true, true_and, true_or, if_true, if_false, ite_true, ite_false, reduceCtorEq, reduceIte, eb]
        · have e : k = sv.length := by omega
          subst e
          have hl := hlen sv.length
          have hl2 : (bumps (hisG lv low step) (List.replicate n 0) (cov sv)).length = n := hl
          have htk : List.take n (bumps (hisG lv low step) (List.replicate n 0) (cov sv)) = bumps (hisG lv low step) (List.replicate n 0) (cov sv) := List.take_of_length_le (by omega)
          have ec : covK sv sv.length = cov sv := rfl
          have hlt2 : ¬ sv.length < lv.length := by omega
          simp (config := {decide := true, maxSteps := 1000000}) only [nilQ, nilA, RechL, ReY, isNew, stepO, XPost, postN, XOk, updN, updU, isEff, avalue, aeff, ASt.eval, ASt.put, ASt.set, ASt.new, Nat.reduceDiv, Nat.reduceAdd, Int.reduceToNat, absV, absC, scalar, alen, acap, conc, flats, live, blkOf, aload, rd, part?, afieldAddr, afield, aindexAddr, cellsOf, afill, places, abuild, optI, asliceV, asliceS, szOk, srcCells, aappend, astore, amakeSlice, abuildSlice, snapL, mapO, treeL, AVal.tree, AVal.flatT, isFlat, ares, lookupA, lookupH, tops, if_true, if_false, reduceCtorEq, forall_const, ite_true, ite_false, implies_true, walkS, tabS, Try.results32, hlt2, ec, hl2, htk]
    · obtain ⟨e1, e2⟩ := his_bad h1 h2
      rw [e1, e2]
      by_cases p1 : -300000 ≤ low ∧ low ≤ 300000
      · simp (config := {decide := true, maxSteps := 1000000}) only [nilQ, nilA, RechL, ReY, isNew, stepO, XPost, postN, XOk, updN, updU, isEff, avalue, aeff, ASt.eval, ASt.put, ASt.set, ASt.new, Nat.reduceDiv, Nat.reduceAdd, Int.reduceToNat, absV, absC, scalar, alen, acap, conc, flats, live, blkOf, aload, rd, part?, afieldAddr, afield, aindexAddr, cellsOf, afill, places, abuild, optI, asliceV, asliceS, szOk, srcCells, aappend, astore, amakeSlice, abuildSlice, snapL, mapO, treeL, AVal.tree, AVal.flatT, isFlat, ares, lookupA, lookupH, tops, if_true, if_false, reduceCtorEq, forall_const, ite_true, ite_false, implies_true, walkS, tabS, Try.results32, p1]
        refine callK (den_l00In step 1 300000) (by first | exact .inl rfl | exact .inr rfl) ?_
        by_cases p2 : 1 ≤ step ∧ step ≤ 300000
        · simp (config := {decide := true, maxSteps := 1000000}) only [nilQ, nilA, RechL, ReY, isNew, stepO, XPost, postN, XOk, updN, updU, isEff, avalue, aeff, ASt.eval, ASt.put, ASt.set, ASt.new, Nat.reduceDiv, Nat.reduceAdd, Int.reduceToNat, absV, absC, scalar, alen, acap, conc, flats, live, blkOf, aload, rd, part?, afieldAddr, afield, aindexAddr, cellsOf, afill, places, abuild, optI, asliceV, asliceS, szOk, srcCells, aappend, astore, amakeSlice, abuildSlice, snapL, mapO, treeL, AVal.tree, AVal.flatT, isFlat, ares, lookupA, lookupH, tops, if_true, if_false, reduceCtorEq, forall_const, ite_true, ite_false, implies_true, walkS, tabS, Try.results32, p2]
          refine callK (den_l00In many 1 64) (by first | exact .inl rfl | exact .inr rfl) ?_
          have p3 : ¬ (1 ≤ many ∧ many ≤ 64) := fun h => h2 ⟨p1, p2, h⟩
          simp (config := {decide := true, maxSteps := 1000000}) only [nilQ, nilA, RechL, ReY, isNew, stepO, XPost, postN, XOk, updN, updU, isEff, avalue, aeff, ASt.eval, ASt.put, ASt.set, ASt.new, Nat.reduceDiv, Nat.reduceAdd, Int.reduceToNat, absV, absC, scalar, alen, acap, conc, flats, live, blkOf, aload, rd, part?, afieldAddr, afield, aindexAddr, cellsOf, afill, places, abuild, optI, asliceV, asliceS, szOk, srcCells, aappend, astore, amakeSlice, abuildSlice, snapL, mapO, treeL, AVal.tree, AVal.flatT, isFlat, ares, lookupA, lookupH, tops, if_true, if_false, reduceCtorEq, forall_const, ite_true, ite_false, implies_true, walkS, tabS, Try.results32, p3, mapC_nil]
        · simp (config := {decide := true, maxSteps := 1000000}) only [nilQ, nilA, RechL, ReY, isNew, stepO, XPost, postN, XOk, updN, updU, isEff, avalue, aeff, ASt.eval, ASt.put, ASt.set, ASt.new, Nat.reduceDiv, Nat.reduceAdd, Int.reduceToNat, absV, absC, scalar, alen, acap, conc, flats, live, blkOf, aload, rd, part?, afieldAddr, afield, aindexAddr, cellsOf, afill, places, abuild, optI, asliceV, asliceS, szOk, srcCells, aappend, astore, amakeSlice, abuildSlice, snapL, mapO, treeL, AVal.tree, AVal.flatT, isFlat, ares, lookupA, lookupH, tops, if_true, if_false, reduceCtorEq, forall_const, ite_true, ite_false, implies_true, walkS, tabS, Try.results32, p2, mapC_nil]
      · simp (config := {decide := true, maxSteps := 1000000}) only [nilQ, nilA, RechL, ReY, isNew, stepO, XPost, postN, XOk, updN, updU, isEff, avalue, aeff, ASt.eval, ASt.put, ASt.set, ASt.new, Nat.reduceDiv, Nat.reduceAdd, Int.reduceToNat, absV, absC, scalar, alen, acap, conc, flats, live, blkOf, aload, rd, part?, afieldAddr, afield, aindexAddr, cellsOf, afill, places, abuild, optI, asliceV, asliceS, szOk, srcCells, aappend, astore, amakeSlice, abuildSlice, snapL, mapO, treeL, AVal.tree, AVal.flatT, isFlat, ares, lookupA, lookupH, tops, if_true, if_false, reduceCtorEq, forall_const, ite_true, ite_false, implies_true, walkS, tabS, Try.results32, p1, mapC_nil]
  · obtain ⟨e1, e2⟩ := his_no (low := low) (step := step) (many := many) h1
    rw [e1, e2]
    simp (config := {decide := true, maxSteps := 1000000}) only [nilQ, nilA, RechL, ReY, isNew, stepO, XPost, postN, XOk, updN, updU, isEff, avalue, aeff, ASt.eval, ASt.put, ASt.set, ASt.new, Nat.reduceDiv, Nat.reduceAdd, Int.reduceToNat, absV, absC, scalar, alen, acap, conc, flats, live, blkOf, aload, rd, part?, afieldAddr, afield, aindexAddr, cellsOf, afill, places, abuild, optI, asliceV, asliceS, szOk, srcCells, aappend, astore, amakeSlice, abuildSlice, snapL, mapO, treeL, AVal.tree, AVal.flatT, isFlat, ares, lookupA, lookupH, tops, if_true, if_false, reduceCtorEq, forall_const, ite_true, ite_false, implies_true, walkS, tabS, Try.results32]
    refine callK (den_l20Ok s w h sv lv) (by first | exact .inl rfl | exact .inr rfl) ?_
    simp (config := {decide := true, maxSteps := 1000000}) only [nilQ, nilA, RechL, ReY, isNew, stepO, XPost, postN, XOk, updN, updU, isEff, avalue, aeff, ASt.eval, ASt.put, ASt.set, ASt.new, Nat.reduceDiv, Nat.reduceAdd, Int.reduceToNat, absV, absC, scalar, alen, acap, conc, flats, live, blkOf, aload, rd, part?, afieldAddr, afield, aindexAddr, cellsOf, afill, places, abuild, optI, asliceV, asliceS, szOk, srcCells, aappend, astore, amakeSlice, abuildSlice, snapL, mapO, treeL, AVal.tree, AVal.flatT, isFlat, ares, lookupA, lookupH, tops, if_true, if_false, reduceCtorEq, forall_const, ite_true, ite_false, implies_true, walkS, tabS, Try.results32, h1, mapC_nil]
theorem denx_implHistogramOf (s w h : Int) (sv lv : List Int) (low step many : Int) : DenX Try.prog 33 [.v (rasV s w h sv lv), xi low, xi step, xi many] [.v (rasV s w h sv lv), xi low, xi step, xi many] (.tup [xints (hisL s w h sv lv low step many), xi (hisC s w h sv lv low step many)]) := by
  refine denx_of_awp Try.func33 rfl (by kernel_rfl) (Nat.le_of_ble_eq_true rfl) (by simp (config := {decide := true}) only [w_embA_nil, w_embA_cons, w_emb_v, w_emb_ol, w_emb_op, w_emb_agg, w_emb_tup, w_embL_nil, w_embL_cons, embL_i, List.map_cons, List.map_nil, List.nil_append, List.append_nil, List.cons_append, List.nodup_cons, List.nodup_nil, List.mem_cons, List.mem_nil_iff, List.not_mem_nil, ch_ch, ch_lit, lit_ch]) mixed (by kernel_rfl) fun hl => ?_
  simp only [xlensL, xlens, lensL, lens, lensL_i, lensL_mapC, xlensL_i, maxI, and_true, true_and] at hl
  rw [Try.ntmps33]
  refine ex_start ?_
  by_cases h1 : OkRas s w h sv lv
  · simp (config := {decide := true, maxSteps := 1000000}) only [nilQ, nilA, RechL, ReY, isNew, stepO, XPost, postN, XOk, updN, updU, isEff, avalue, aeff, ASt.eval, ASt.put, ASt.set, ASt.new, Nat.reduceDiv, Nat.reduceAdd, Int.reduceToNat, absV, absC, scalar, alen, acap, conc, flats, live, blkOf, aload, rd, part?, afieldAddr, afield, aindexAddr, cellsOf, afill, places, abuild, optI, asliceV, asliceS, szOk, srcCells, aappend, astore, amakeSlice, abuildSlice, snapL, mapO, treeL, AVal.tree, AVal.flatT, isFlat, ares, lookupA, lookupH, tops, if_true, if_false, reduceCtorEq, forall_const, ite_true, ite_false, implies_true, walkS, tabS, Try.results33]
    refine callK (den_ValidRaster s w h sv lv) (by first | exact .inl rfl | exact .inr rfl) ?_
    simp (config := {decide := true, maxSteps := 1000000}) only [nilQ, nilA, RechL, ReY, isNew, stepO, XPost, postN, XOk, updN, updU, isEff, avalue, aeff, ASt.eval, ASt.put, ASt.set, ASt.new, Nat.reduceDiv, Nat.reduceAdd, Int.reduceToNat, absV, absC, scalar, alen, acap, conc, flats, live, blkOf, aload, rd, part?, afieldAddr, afield, aindexAddr, cellsOf, afill, places, abuild, optI, asliceV, asliceS, szOk, srcCells, aappend, astore, amakeSlice, abuildSlice, snapL, mapO, treeL, AVal.tree, AVal.flatT, isFlat, ares, lookupA, lookupH, tops, if_true, if_false, reduceCtorEq, forall_const, ite_true, ite_false, implies_true, walkS, tabS, Try.results33, h1]
    refine callK (den_ValidLevel low) (by first | exact .inl rfl | exact .inr rfl) ?_
    by_cases h2 : HisOk low step many
    · obtain ⟨e1, e2⟩ := his_yes h1 h2
      rw [e1, e2]
      have h2' : -300000 ≤ low ∧ low ≤ 300000 := h2.1
      simp (config := {decide := true, maxSteps := 1000000}) only [nilQ, nilA, RechL, ReY, isNew, stepO, XPost, postN, XOk, updN, updU, isEff, avalue, aeff, ASt.eval, ASt.put, ASt.set, ASt.new, Nat.reduceDiv, Nat.reduceAdd, Int.reduceToNat, absV, absC, scalar, alen, acap, conc, flats, live, blkOf, aload, rd, part?, afieldAddr, afield, aindexAddr, cellsOf, afill, places, abuild, optI, asliceV, asliceS, szOk, srcCells, aappend, astore, amakeSlice, abuildSlice, snapL, mapO, treeL, AVal.tree, AVal.flatT, isFlat, ares, lookupA, lookupH, tops, if_true, if_false, reduceCtorEq, forall_const, ite_true, ite_false, implies_true, walkS, tabS, Try.results33, h2']
      refine callK (den_within step 1 300000) (by first | exact .inl rfl | exact .inr rfl) ?_
      simp (config := {decide := true, maxSteps := 1000000}) only [nilQ, nilA, RechL, ReY, isNew, stepO, XPost, postN, XOk, updN, updU, isEff, avalue, aeff, ASt.eval, ASt.put, ASt.set, ASt.new, Nat.reduceDiv, Nat.reduceAdd, Int.reduceToNat, absV, absC, scalar, alen, acap, conc, flats, live, blkOf, aload, rd, part?, afieldAddr, afield, aindexAddr, cellsOf, afill, places, abuild, optI, asliceV, asliceS, szOk, srcCells, aappend, astore, amakeSlice, abuildSlice, snapL, mapO, treeL, AVal.tree, AVal.flatT, isFlat, ares, lookupA, lookupH, tops, if_true, if_false, reduceCtorEq, forall_const, ite_true, ite_false, implies_true, walkS, tabS, Try.results33, h2.2.1]
      refine callK (den_within many 1 64) (by first | exact .inl rfl | exact .inr rfl) ?_
      obtain ⟨n, en⟩ : ∃ n : Nat, many = n := ⟨many.toNat, by have := h2.2.2; omega⟩
      have hb := h2.2.2
      have hbb := bars_bound h2
      subst en
      have h8 : (n : Int) * ((8 : Nat) : Int) ≤ 281474976710656 := by omega
      have h63 : (n : Int) ≤ 9223372036854775807 := by omega
      simp (config := {decide := true, maxSteps := 1000000}) only [nilQ, nilA, RechL, ReY, isNew, stepO, XPost, postN, XOk, updN, updU, isEff, avalue, aeff, ASt.eval, ASt.put, ASt.set, ASt.new, Nat.reduceDiv, Nat.reduceAdd, Int.reduceToNat, absV, absC, scalar, alen, acap, conc, flats, live, blkOf, aload, rd, part?, afieldAddr, afield, aindexAddr, cellsOf, afill, places, abuild, optI, asliceV, asliceS, szOk, srcCells, aappend, astore, amakeSlice, abuildSlice, snapL, mapO, treeL, AVal.tree, AVal.flatT, isFlat, ares, lookupA, lookupH, tops, if_true, if_false, reduceCtorEq, forall_const, ite_true, ite_false, implies_true, walkS, tabS, Try.results33, hb, h8, h63]
      have q1 := ok_pos h1
      have q2 := h1.2.2.1
      refine callK (den_covered s w h sv lv (by omega)) (by first | exact .inl rfl | exact .inr rfl) ?_
      simp (config := {decide := true, maxSteps := 1000000}) only [nilQ, nilA, RechL, ReY, isNew, stepO, XPost, postN, XOk, updN, updU, isEff, avalue, aeff, ASt.eval, ASt.put, ASt.set, ASt.new, Nat.reduceDiv, Nat.reduceAdd, Int.reduceToNat, absV, absC, scalar, alen, acap, conc, flats, live, blkOf, aload, rd, part?, afieldAddr, afield, aindexAddr, cellsOf, afill, places, abuild, optI, asliceV, asliceS, szOk, srcCells, aappend, astore, amakeSlice, abuildSlice, snapL, mapO, treeL, AVal.tree, AVal.flatT, isFlat, ares, lookupA, lookupH, tops, if_true, if_false, reduceCtorEq, forall_const, ite_true, ite_false, implies_true, walkS, tabS, Try.results33]
      have hlen := fun k => bumps_length (hisG lv low step) ((cov sv).take k) (List.replicate n 0)
      simp only [List.length_replicate] at hlen
      refine ex_loop (fun k : {k : Nat // k ≤ (cov sv).length} => mk [(1, .i low), (2, .i step), (3, .i n), (4, .ptr 4 1 0), (10, .own 33 2 0 n), (35, ints (cov sv)), (36, .i (cov sv).length), (37, .i k)] [(4, ⟨1, 5, [.i s, .i w, .i h, ints sv, ints lv]⟩), (33, ⟨2, 1, mapC AVal.i (bumps (hisG lv low step) (List.replicate n 0) ((cov sv).take k))⟩)] 3 67) (fun k => (cov sv).length - k) ⟨0, by simp⟩ ?_ ?_
      · refine weak_mk rfl (by first | exact Nat.le_refl _ | (simp only [mk_gen]; omega)) ?_ ?_ <;> simp (config := {decide := true}) only [w_lookup_nil, w_lookup_cons, ch_ch, ch_lit, lit_ch, wkT, wkH, wkB, WVL, WV_refl', Int.natCast_zero, Int.natCast_add, Int.natCast_one, Nat.sub_self, Nat.sub_zero, List.replicate_zero, List.take_zero, List.nil_append, List.append_nil, fillC_zero, Nat.reduceDiv, Nat.reduceAdd, upd_bk, bk_at, getB_zero, getB_succ, modB_zero, modB_succ, rows_lit, repB_zero, repB_succ, List.length_cons, List.length_nil, upd_upd_same, upd_apply, mk_tmp, mk_heap, mk_gen, lookupA, lookupH, List.getD_cons_zero, List.getD_cons_succ, init_two, tops, Bool.true_and, and_self, and_true, true_and, true_or, if_true, if_false, ite_true, ite_false, reduceCtorEq, reduceIte, bumps, List.foldl_nil]
      · rintro ⟨k, hk⟩
        by_cases hlt : k < (cov sv).length
        · have hc := covK_le sv sv.length
          have hc' : (cov sv).length ≤ sv.length := hc
          have hw : IntKind.i64.wrap ((k : Int) + 1) = ((k + 1 : Nat) : Int) := wrap64 (by omega) (by omega)
          have hl := hlen k
          have hm : (cov sv).length - (k + 1) < (cov sv).length - k := by omega
          obtain ⟨c, ec, hcl, hc0⟩ := cov_get2 hlt
          have hcl' : c < lv.length := by omega
          have hv := ok_lv h1 c hcl'
          have hw4 : IntKind.i64.wrap ((n : Int) * step) = n * step := wrap64 (by omega) (by omega)
          have hw5 : IntKind.i64.wrap (low + (n : Int) * step) = low + n * step := wrap64 (by omega) (by omega)
          have hw6 : IntKind.i64.wrap (low + (n : Int) * step - 1) = low + n * step - 1 := wrap64 (by omega) (by omega)
          simp (config := {decide := true, maxSteps := 1000000}) only [nilQ, nilA, RechL, ReY, isNew, stepO, XPost, postN, XOk, updN, updU, isEff, avalue, aeff, ASt.eval, ASt.put, ASt.set, ASt.new, Nat.reduceDiv, Nat.reduceAdd, Int.reduceToNat, absV, absC, scalar, alen, acap, conc, flats, live, blkOf, aload, rd, part?, afieldAddr, afield, aindexAddr, cellsOf, afill, places, abuild, optI, asliceV, asliceS, szOk, srcCells, aappend, astore, amakeSlice, abuildSlice, snapL, mapO, treeL, AVal.tree, AVal.flatT, isFlat, ares, lookupA, lookupH, tops, if_true, if_false, reduceCtorEq, forall_const, ite_true, ite_false, implies_true, walkS, tabS, Try.results33, hw, hlt, ec, hcl', hw4, hw5, hw6]
          refine callK (den_within _ _ _) (by first | exact .inl rfl | exact .inr rfl) ?_
          by_cases p2 : lv[c] < low
          · have p3 : ¬ (low ≤ lv[c] ∧ lv[c] ≤ low + n * step - 1) := by omega
            simp (config := {decide := true, maxSteps := 1000000}) only [nilQ, nilA, RechL, ReY, isNew, stepO, XPost, postN, XOk, updN, updU, isEff, avalue, aeff, ASt.eval, ASt.put, ASt.set, ASt.new, Nat.reduceDiv, Nat.reduceAdd, Int.reduceToNat, absV, absC, scalar, alen, acap, conc, flats, live, blkOf, aload, rd, part?, afieldAddr, afield, aindexAddr, cellsOf, afill, places, abuild, optI, asliceV, asliceS, szOk, srcCells, aappend, astore, amakeSlice, abuildSlice, snapL, mapO, treeL, AVal.tree, AVal.flatT, isFlat, ares, lookupA, lookupH, tops, if_true, if_false, reduceCtorEq, forall_const, ite_true, ite_false, implies_true, walkS, tabS, Try.results33, hw, p3, hl]
            refine ⟨⟨k + 1, hlt⟩, ?_, hm⟩
            have eb : bumps (hisG lv low step) (List.replicate n 0) ((cov sv).take (k + 1)) = bumps (hisG lv low step) (List.replicate n 0) ((cov sv).take k) := by
              rw [List.take_succ_eq_append_getElem hlt, ec, bumps_snoc, bump_out _ _ (.inl (by simp [hisG, List.getD, hcl', p2]))]
            refine weak_mk rfl (by first | exact Nat.le_refl _ | (simp only [mk_gen]; omega)) ?_ ?_ <;> simp (config := {decide := true}) only [w_lookup_nil, w_lookup_cons, ch_ch, ch_lit, lit_ch, wkT, wkH, wkB, WVL, WV_refl', Int.natCast_zero, Int.natCast_add, Int.natCast_one, Nat.sub_self, Nat.sub_zero, List.replicate_zero, List.take_zero, List.nil_append, List.append_nil, fillC_zero, Nat.reduceDiv, Nat.reduceAdd, upd_bk, bk_at, getB_zero, getB_succ, modB_zero, modB_succ, rows_lit, repB_zero, repB_succ, List.length_cons, List.length_nil, upd_upd_same, upd_apply, mk_tmp, mk_heap, mk_gen, lookupA, lookupH, List.getD_cons_zero, List.getD_cons_succ, init_two, tops, Bool.true_and, and_self, and_true, true_and, true_or, if_true, if_false, ite_true, ite_false, reduceCtorEq, reduceIte, eb]
          · obtain ⟨m, em, hm1, hm2⟩ := bar_lt (low := low) (many := n) h2.2.1 lv[c] (by omega)
            have hw2 : IntKind.i64.wrap (lv[c] - low) = lv[c] - low := wrap64 (by omega) (by omega)
            have hw3 : IntKind.i64.wrap (m : Int) = m := wrap64 (by omega) (by omega)
            have hq : step ≠ 0 := by have := h2.2.1; omega
            have eg : hisG lv low step (c : Int) = m := by simp [hisG, List.getD, hcl', p2, em]
            by_cases p3 : m < n
            · have p4 : low ≤ lv[c] ∧ lv[c] ≤ low + n * step - 1 := ⟨by omega, hm1.1 (by omega)⟩
              have hml : m < (bumps (hisG lv low step) (List.replicate n 0) ((cov sv).take k)).length := by omega
              simp (config := {decide := true, maxSteps := 1000000}) only [nilQ, nilA, RechL, ReY, isNew, stepO, XPost, postN, XOk, updN, updU, isEff, avalue, aeff, ASt.eval, ASt.put, ASt.set, ASt.new, Nat.reduceDiv, Nat.reduceAdd, Int.reduceToNat, absV, absC, scalar, alen, acap, conc, flats, live, blkOf, aload, rd, part?, afieldAddr, afield, aindexAddr, cellsOf, afill, places, abuild, optI, asliceV, asliceS, szOk, srcCells, aappend, astore, amakeSlice, abuildSlice, snapL, mapO, treeL, AVal.tree, AVal.flatT, isFlat, ares, lookupA, lookupH, tops, if_true, if_false, reduceCtorEq, forall_const, ite_true, ite_false, implies_true, walkS, tabS, Try.results33, hw, p4, hl, hw2, hw3, hq, sem_quo, em, p3, hml]
              refine ⟨⟨k + 1, hlt⟩, ?_, hm⟩
              have eb : bumps (hisG lv low step) (List.replicate n 0) ((cov sv).take (k + 1)) = (bumps (hisG lv low step) (List.replicate n 0) ((cov sv).take k)).set m (IntKind.i64.wrap ((bumps (hisG lv low step) (List.replicate n 0) ((cov sv).take k))[m] + 1)) := by
                rw [List.take_succ_eq_append_getElem hlt, bumps_snoc, ec, eg, bump_nat _ _ hml]
              refine weak_mk rfl (by first | exact Nat.le_refl _ | (simp only [mk_gen]; omega)) ?_ ?_ <;> simp (config := {decide := true}) only [w_lookup_nil, w_lookup_cons, ch_ch, ch_lit, lit_ch, wkT, wkH, wkB, WVL, WV_refl', Int.natCast_zero, Int.natCast_add, Int.natCast_one, Nat.sub_self, Nat.sub_zero, List.replicate_zero, List.take_zero, List.nil_append, List.append_nil, fillC_zero, Nat.reduceDiv, Nat.reduceAdd, upd_bk, bk_at, getB_zero, getB_succ, modB_zero, modB_succ, rows_lit, repB_zero, repB_succ, List.length_cons, List.length_nil, upd_upd_same, upd_apply, mk_tmp, mk_heap, mk_gen, lookupA, lookupH, List.getD_cons_zero, List.getD_cons_succ, init_two, tops, Bool.true_and, and_self, and_true, true_and, true_or, if_true, if_false, ite_true, ite_false, reduceCtorEq, reduceIte, eb]
            · have p4 : ¬ (low ≤ lv[c] ∧ lv[c] ≤ low + n * step - 1) := fun h => p3 (by have := hm1.2 h.2; omega)
              simp (config := {decide := true, maxSteps := 1000000}) only [nilQ, nilA, RechL, ReY, isNew, stepO, XPost, postN, XOk, updN, updU, isEff, avalue, aeff, ASt.eval, ASt.put, ASt.set, ASt.new, Nat.reduceDiv, Nat.reduceAdd, Int.reduceToNat, absV, absC, scalar, alen, acap, conc, flats, live, blkOf, aload, rd, part?, afieldAddr, afield, aindexAddr, cellsOf, afill, places, abuild, optI, asliceV, asliceS, szOk, srcCells, aappend, astore, amakeSlice, abuildSlice, snapL, mapO, treeL, AVal.tree, AVal.flatT, isFlat, ares, lookupA, lookupH, tops, if_true, if_false, reduceCtorEq, forall_const, ite_true, ite_false, implies_true, walkS, tabS, Try.results33, hw, p4, hl]
              refine ⟨⟨k + 1, hlt⟩, ?_, hm⟩
              have eb : bumps (hisG lv low step) (List.replicate n 0) ((cov sv).take (k + 1)) = bumps (hisG lv low step) (List.replicate n 0) ((cov sv).take k) := by
                rw [List.take_succ_eq_append_getElem hlt, bumps_snoc, ec, bump_out _ _ (.inr (by rw [eg]; omega))]
              refine weak_mk rfl (by first | exact Nat.le_refl _ | (simp only [mk_gen]; omega)) ?_ ?_ <;> simp (config := {decide := true}) only [w_lookup_nil, w_lookup_cons, ch_ch, ch_lit, lit_ch, wkT, wkH, wkB, WVL, WV_refl', Int.natCast_zero, Int.natCast_add, Int.natCast_one, Nat.sub_self, Nat.sub_zero, List.replicate_zero, List.take_zero, List.nil_append, List.append_nil, fillC_zero, Nat.reduceDiv, Nat.reduceAdd, upd_bk, bk_at, getB_zero, getB_succ, modB_zero, modB_succ, rows_lit, repB_zero, repB_succ, List.length_cons, List.length_nil, upd_upd_same, upd_apply, mk_tmp, mk_heap, mk_gen, lookupA, lookupH, List.getD_cons_zero, List.getD_cons_succ, init_two, tops, Bool.true_and, and_self, and_true, true_and, true_or, if_true, if_false, ite_true, ite_false, reduceCtorEq, reduceIte, eb]
        · have e : k = (cov sv).length := by omega
          subst e
          have hl := hlen (cov sv).length
          rw [List.take_length] at hl
          have htk : List.take n (bumps (hisG lv low step) (List.replicate n 0) (cov sv)) = bumps (hisG lv low step) (List.replicate n 0) (cov sv) := List.take_of_length_le (by omega)
          simp (config := {decide := true, maxSteps := 1000000}) only [nilQ, nilA, RechL, ReY, isNew, stepO, XPost, postN, XOk, updN, updU, isEff, avalue, aeff, ASt.eval, ASt.put, ASt.set, ASt.new, Nat.reduceDiv, Nat.reduceAdd, Int.reduceToNat, absV, absC, scalar, alen, acap, conc, flats, live, blkOf, aload, rd, part?, afieldAddr, afield, aindexAddr, cellsOf, afill, places, abuild, optI, asliceV, asliceS, szOk, srcCells, aappend, astore, amakeSlice, abuildSlice, snapL, mapO, treeL, AVal.tree, AVal.flatT, isFlat, ares, lookupA, lookupH, tops, if_true, if_false, reduceCtorEq, forall_const, ite_true, ite_false, implies_true, walkS, tabS, Try.results33, hlt, hl, htk, List.take_length]
    · obtain ⟨e1, e2⟩ := his_bad h1 h2
      rw [e1, e2]
      by_cases p1 : -300000 ≤ low ∧ low ≤ 300000
      · simp (config := {decide := true, maxSteps := 1000000}) only [nilQ, nilA, RechL, ReY, isNew, stepO, XPost, postN, XOk, updN, updU, isEff, avalue, aeff, ASt.eval, ASt.put, ASt.set, ASt.new, Nat.reduceDiv, Nat.reduceAdd, Int.reduceToNat, absV, absC, scalar, alen, acap, conc, flats, live, blkOf, aload, rd, part?, afieldAddr, afield, aindexAddr, cellsOf, afill, places, abuild, optI, asliceV, asliceS, szOk, srcCells, aappend, astore, amakeSlice, abuildSlice, snapL, mapO, treeL, AVal.tree, AVal.flatT, isFlat, ares, lookupA, lookupH, tops, if_true, if_false, reduceCtorEq, forall_const, ite_true, ite_false, implies_true, walkS, tabS, Try.results33, p1]
        refine callK (den_within step 1 300000) (by first | exact .inl rfl | exact .inr rfl) ?_
        by_cases p2 : 1 ≤ step ∧ step ≤ 300000
        · simp (config := {decide := true, maxSteps := 1000000}) only [nilQ, nilA, RechL, ReY, isNew, stepO, XPost, postN, XOk, updN, updU, isEff, avalue, aeff, ASt.eval, ASt.put, ASt.set, ASt.new, Nat.reduceDiv, Nat.reduceAdd, Int.reduceToNat, absV, absC, scalar, alen, acap, conc, flats, live, blkOf, aload, rd, part?, afieldAddr, afield, aindexAddr, cellsOf, afill, places, abuild, optI, asliceV, asliceS, szOk, srcCells, aappend, astore, amakeSlice, abuildSlice, snapL, mapO, treeL, AVal.tree, AVal.flatT, isFlat, ares, lookupA, lookupH, tops, if_true, if_false, reduceCtorEq, forall_const, ite_true, ite_false, implies_true, walkS, tabS, Try.results33, p2]
          refine callK (den_within many 1 64) (by first | exact .inl rfl | exact .inr rfl) ?_
          have p3 : ¬ (1 ≤ many ∧ many ≤ 64) := fun h => h2 ⟨p1, p2, h⟩
          simp (config := {decide := true, maxSteps := 1000000}) only [nilQ, nilA, RechL, ReY, isNew, stepO, XPost, postN, XOk, updN, updU, isEff, avalue, aeff, ASt.eval, ASt.put, ASt.set, ASt.new, Nat.reduceDiv, Nat.reduceAdd, Int.reduceToNat, absV, absC, scalar, alen, acap, conc, flats, live, blkOf, aload, rd, part?, afieldAddr, afield, aindexAddr, cellsOf, afill, places, abuild, optI, asliceV, asliceS, szOk, srcCells, aappend, astore, amakeSlice, abuildSlice, snapL, mapO, treeL, AVal.tree, AVal.flatT, isFlat, ares, lookupA, lookupH, tops, if_true, if_false, reduceCtorEq, forall_const, ite_true, ite_false, implies_true, walkS, tabS, Try.results33, p3, mapC_nil]
        · simp (config := {decide := true, maxSteps := 1000000}) only [nilQ, nilA, RechL, ReY, isNew, stepO, XPost, postN, XOk, updN, updU, isEff, avalue, aeff, ASt.eval, ASt.put, ASt.set, ASt.new, Nat.reduceDiv, Nat.reduceAdd, Int.reduceToNat, absV, absC, scalar, alen, acap, conc, flats, live, blkOf, aload, rd, part?, afieldAddr, afield, aindexAddr, cellsOf, afill, places, abuild, optI, asliceV, asliceS, szOk, srcCells, aappend, astore, amakeSlice, abuildSlice, snapL, mapO, treeL, AVal.tree, AVal.flatT, isFlat, ares, lookupA, lookupH, tops, if_true, if_false, reduceCtorEq, forall_const, ite_true, ite_false, implies_true, walkS, tabS, Try.results33, p2, mapC_nil]
      · simp (config := {decide := true, maxSteps := 1000000}) only [nilQ, nilA, RechL, ReY, isNew, stepO, XPost, postN, XOk, updN, updU, isEff, avalue, aeff, ASt.eval, ASt.put, ASt.set, ASt.new, Nat.reduceDiv, Nat.reduceAdd, Int.reduceToNat, absV, absC, scalar, alen, acap, conc, flats, live, blkOf, aload, rd, part?, afieldAddr, afield, aindexAddr, cellsOf, afill, places, abuild, optI, asliceV, asliceS, szOk, srcCells, aappend, astore, amakeSlice, abuildSlice, snapL, mapO, treeL, AVal.tree, AVal.flatT, isFlat, ares, lookupA, lookupH, tops, if_true, if_false, reduceCtorEq, forall_const, ite_true, ite_false, implies_true, walkS, tabS, Try.results33, p1, mapC_nil]
  · obtain ⟨e1, e2⟩ := his_no (low := low) (step := step) (many := many) h1
    rw [e1, e2]
    simp (config := {decide := true, maxSteps := 1000000}) only [nilQ, nilA, RechL, ReY, isNew, stepO, XPost, postN, XOk, updN, updU, isEff, avalue, aeff, ASt.eval, ASt.put, ASt.set, ASt.new, Nat.reduceDiv, Nat.reduceAdd, Int.reduceToNat, absV, absC, scalar, alen, acap, conc, flats, live, blkOf, aload, rd, part?, afieldAddr, afield, aindexAddr, cellsOf, afill, places, abuild, optI, asliceV, asliceS, szOk, srcCells, aappend, astore, amakeSlice, abuildSlice, snapL, mapO, treeL, AVal.tree, AVal.flatT, isFlat, ares, lookupA, lookupH, tops, if_true, if_false, reduceCtorEq, forall_const, ite_true, ite_false, implies_true, walkS, tabS, Try.results33]
    refine callK (den_ValidRaster s w h sv lv) (by first | exact .inl rfl | exact .inr rfl) ?_
    simp (config := {decide := true, maxSteps := 1000000}) only [nilQ, nilA, RechL, ReY, isNew, stepO, XPost, postN, XOk, updN, updU, isEff, avalue, aeff, ASt.eval, ASt.put, ASt.set, ASt.new, Nat.reduceDiv, Nat.reduceAdd, Int.reduceToNat, absV, absC, scalar, alen, acap, conc, flats, live, blkOf, aload, rd, part?, afieldAddr, afield, aindexAddr, cellsOf, afill, places, abuild, optI, asliceV, asliceS, szOk, srcCells, aappend, astore, amakeSlice, abuildSlice, snapL, mapO, treeL, AVal.tree, AVal.flatT, isFlat, ares, lookupA, lookupH, tops, if_true, if_false, reduceCtorEq, forall_const, ite_true, ite_false, implies_true, walkS, tabS, Try.results33, h1, mapC_nil]
end Go.Proofs.Ytdbongnhdlbplaa
