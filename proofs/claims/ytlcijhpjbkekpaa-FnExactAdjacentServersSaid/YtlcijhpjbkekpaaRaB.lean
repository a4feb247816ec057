/-
  OWN WORK: contracts of the tests of rasters and of the lists of covered cells.
-/
import Derived.Test.YtlcijhpjbkekpaaRaA
namespace Go.Proofs.Ytlcijhpjbkekpaa
open Go Go.Own Go.Proofs
set_option maxHeartbeats 4000000
set_option maxRecDepth 20000
set_option linter.unusedSimpArgs false
abbrev rasP (s w h : Int) (sv lv : List Int) : AVal := .iptr [.i s, .i w, .i h, ints sv, ints lv] 0
abbrev rasV (s w h : Int) (sv lv : List Int) : AVal := .agg [.i s, .i w, .i h, ints sv, ints lv]
def CellOk (a b : Int) : Prop := (-1 ≤ a ∧ a ≤ 23) ∧ (-300000 ≤ b ∧ b ≤ 300000) ∧ (a < 0 → b = -300000)
def OkRas (s w h : Int) (sv lv : List Int) : Prop := Sized s w h ∧ (sv.length : Int) = w * h ∧ lv.length = sv.length ∧ ∀ i (h1 : i < sv.length) (h2 : i < lv.length), CellOk sv[i] lv[i]
theorem size_bound {s w h : Int} (hs : Sized s w h) : IntKind.i64.wrap (w * h) = w * h ∧ 0 ≤ w * h ∧ w * h ≤ 576 := by
  have a := Int.mul_le_mul (a := w) (b := h) (c := 24) (d := 24) hs.2.1.2 hs.2.2.1.2 (by have := hs.2.2.1; omega) (by omega)
  have b := Int.mul_nonneg (a := w) (b := h) (by have := hs.2.1; omega) (by have := hs.2.2.1; omega)
  exact ⟨wrap64 (by omega) (by omega), b, by omega⟩
theorem cells_step {sv lv : List Int} {k : Nat} (h : ∀ i (h1 : i < sv.length) (h2 : i < lv.length), i < k → CellOk sv[i] lv[i]) {a : k < sv.length} {b : k < lv.length} (hk : CellOk sv[k] lv[k]) :
    ∀ i (h1 : i < sv.length) (h2 : i < lv.length), i < k + 1 → CellOk sv[i] lv[i] := by
  intro i h1 h2 hi
  by_cases e : i = k
  · subst e; exact hk
  · exact h i h1 h2 (by omega)
theorem den_l20Ok (s w h : Int) (sv lv : List Int) : Den Try.prog 14 [rasP s w h sv lv] (.b (bp (OkRas s w h sv lv))) := by
  refine den_of_awp Try.func14 rfl (by kernel_rfl) (Nat.le_of_ble_eq_true rfl) (by simp only [treeL, AVal.tree, treeL_i, treeL_ints, treeL_u8, treeL_append, Bool.and_self, Bool.and_true, Bool.true_and]) (by first | rfl | simp only [treeL, AVal.tree, treeL_i, treeL_ints, treeL_u8, treeL_append, Bool.and_self, Bool.and_true, Bool.true_and]) mixed (by kernel_rfl) fun hl => ?_
  simp only [lensL, lens, lensL_i, lensL_mapC, maxI, and_true, true_and] at hl
  rw [Try.ntmps14]
  refine ex_start ?_
  simp (config := { maxSteps := 1000000 }) +decide only [NoH, Old, OldL, nilQ, nilA, RechL, ReY, isNew, stepO, XPost, postN, XOk, updN, updU, isEff, avalue, aeff, ASt.eval, ASt.put, ASt.set, ASt.new, Nat.reduceDiv, Nat.reduceAdd, Int.reduceToNat, absV, absC, scalar, alen, acap, conc, flats, live, blkOf, aload, rd, part?, afieldAddr, afield, aindexAddr, cellsOf, afill, places, abuild, optI, asliceV, asliceS, szOk, srcCells, aappend, astore, amakeSlice, abuildSlice, snapL, mapO, treeL, AVal.tree, AVal.flatT, isFlat, ares, isFz, afroz, afrozB, lookupA, lookupH, tops, if_true, if_false, reduceCtorEq, forall_const, ite_true, ite_false, implies_true, walkS, tabS, Try.results14]
  refine callK (den_l04Size _ _ _) (by first | exact .inl rfl | exact .inr rfl) ?_
  simp (config := { maxSteps := 1000000 }) +decide only [NoH, Old, OldL, nilQ, nilA, RechL, ReY, isNew, stepO, XPost, postN, XOk, updN, updU, isEff, avalue, aeff, ASt.eval, ASt.put, ASt.set, ASt.new, Nat.reduceDiv, Nat.reduceAdd, Int.reduceToNat, absV, absC, scalar, alen, acap, conc, flats, live, blkOf, aload, rd, part?, afieldAddr, afield, aindexAddr, cellsOf, afill, places, abuild, optI, asliceV, asliceS, szOk, srcCells, aappend, astore, amakeSlice, abuildSlice, snapL, mapO, treeL, AVal.tree, AVal.flatT, isFlat, ares, isFz, afroz, afrozB, lookupA, lookupH, tops, if_true, if_false, reduceCtorEq, forall_const, ite_true, ite_false, implies_true, walkS, tabS, Try.results14]
  refine ⟨fun h1 => ?_, fun h1 hr => h1 hr.1⟩
  have hw := (size_bound h1).1
  simp (config := { maxSteps := 1000000 }) +decide only [NoH, Old, OldL, nilQ, nilA, RechL, ReY, isNew, stepO, XPost, postN, XOk, updN, updU, isEff, avalue, aeff, ASt.eval, ASt.put, ASt.set, ASt.new, Nat.reduceDiv, Nat.reduceAdd, Int.reduceToNat, absV, absC, scalar, alen, acap, conc, flats, live, blkOf, aload, rd, part?, afieldAddr, afield, aindexAddr, cellsOf, afill, places, abuild, optI, asliceV, asliceS, szOk, srcCells, aappend, astore, amakeSlice, abuildSlice, snapL, mapO, treeL, AVal.tree, AVal.flatT, isFlat, ares, isFz, afroz, afrozB, lookupA, lookupH, tops, if_true, if_false, reduceCtorEq, forall_const, ite_true, ite_false, implies_true, walkS, tabS, Try.results14, hw]
  refine ⟨fun h2 => ⟨fun h3 hr => h3 hr.2.2.1, fun h3 => ?_⟩, fun h2 hr => h2 hr.2.1⟩
  refine ex_loop (fun k : {k : Nat // k ≤ sv.length ∧ ∀ i (h1 : i < sv.length) (h2 : i < lv.length), i < k → CellOk sv[i] lv[i]} => mk [(0, rasP s w h sv lv), (3, .i k)] [] 0 97) (fun k => sv.length - k) ⟨0, by simp⟩ ?_ ?_
  · refine weak_mk rfl (by first | exact Nat.le_refl _ | (simp only [mk_gen]; omega)) ?_ ?_ <;> simp +decide only [w_lookup_nil, w_lookup_cons, ch_ch, ch_lit, lit_ch, wkT, wkH, wkB, WVL, WV_refl', Int.natCast_zero, Int.natCast_add, Int.natCast_one, Nat.sub_self, Nat.sub_zero, List.replicate_zero, List.take_zero, List.nil_append, List.append_nil, fillC_zero, Nat.reduceDiv, Nat.reduceAdd, upd_bk, bk_at, getB_zero, getB_succ, modB_zero, modB_succ, rows_lit, repB_zero, repB_succ, List.length_cons, List.length_nil, upd_upd_same, upd_apply, mk_tmp, mk_heap, mk_gen, lookupA, lookupH, List.getD_cons_zero, List.getD_cons_succ, init_two, tops, Bool.true_and, and_self, and_true, true_and, true_or, if_true, if_false, ite_true, ite_false, reduceCtorEq, reduceIte]
  · rintro ⟨k, hk, hkk⟩
    by_cases hlt : k < sv.length
    · have hlt' : k < lv.length := by omega
      have hw : IntKind.i64.wrap ((k : Int) + 1) = ((k + 1 : Nat) : Int) := wrap64 (by omega) (by omega)
      simp (config := { maxSteps := 1000000 }) +decide only [NoH, Old, OldL, nilQ, nilA, RechL, ReY, isNew, stepO, XPost, postN, XOk, updN, updU, isEff, avalue, aeff, ASt.eval, ASt.put, ASt.set, ASt.new, Nat.reduceDiv, Nat.reduceAdd, Int.reduceToNat, absV, absC, scalar, alen, acap, conc, flats, live, blkOf, aload, rd, part?, afieldAddr, afield, aindexAddr, cellsOf, afill, places, abuild, optI, asliceV, asliceS, szOk, srcCells, aappend, astore, amakeSlice, abuildSlice, snapL, mapO, treeL, AVal.tree, AVal.flatT, isFlat, ares, isFz, afroz, afrozB, lookupA, lookupH, tops, if_true, if_false, reduceCtorEq, forall_const, ite_true, ite_false, implies_true, walkS, tabS, Try.results14, hw, hlt, hlt']
      refine callK (den_l00In _ _ _) (by first | exact .inl rfl | exact .inr rfl) ?_
      simp (config := { maxSteps := 1000000 }) +decide only [NoH, Old, OldL, nilQ, nilA, RechL, ReY, isNew, stepO, XPost, postN, XOk, updN, updU, isEff, avalue, aeff, ASt.eval, ASt.put, ASt.set, ASt.new, Nat.reduceDiv, Nat.reduceAdd, Int.reduceToNat, absV, absC, scalar, alen, acap, conc, flats, live, blkOf, aload, rd, part?, afieldAddr, afield, aindexAddr, cellsOf, afill, places, abuild, optI, asliceV, asliceS, szOk, srcCells, aappend, astore, amakeSlice, abuildSlice, snapL, mapO, treeL, AVal.tree, AVal.flatT, isFlat, ares, isFz, afroz, afrozB, lookupA, lookupH, tops, if_true, if_false, reduceCtorEq, forall_const, ite_true, ite_false, implies_true, walkS, tabS, Try.results14, hw, hlt, hlt']
      refine ⟨fun h4 => ?_, fun h4 hr => h4 (hr.2.2.2 k hlt hlt').1⟩
      refine callK (den_l02Level _) (by first | exact .inl rfl | exact .inr rfl) ?_
      simp (config := { maxSteps := 1000000 }) +decide only [NoH, Old, OldL, nilQ, nilA, RechL, ReY, isNew, stepO, XPost, postN, XOk, updN, updU, isEff, avalue, aeff, ASt.eval, ASt.put, ASt.set, ASt.new, Nat.reduceDiv, Nat.reduceAdd, Int.reduceToNat, absV, absC, scalar, alen, acap, conc, flats, live, blkOf, aload, rd, part?, afieldAddr, afield, aindexAddr, cellsOf, afill, places, abuild, optI, asliceV, asliceS, szOk, srcCells, aappend, astore, amakeSlice, abuildSlice, snapL, mapO, treeL, AVal.tree, AVal.flatT, isFlat, ares, isFz, afroz, afrozB, lookupA, lookupH, tops, if_true, if_false, reduceCtorEq, forall_const, ite_true, ite_false, implies_true, walkS, tabS, Try.results14, hw, hlt, hlt']
      refine ⟨fun h5 => ⟨fun h6 => ⟨fun h7 hr => h7 ((hr.2.2.2 k hlt hlt').2.2 h6), fun h7 => ⟨⟨k + 1, hlt, cells_step hkk ⟨h4, h5, fun _ => h7⟩⟩, ?_, ?_⟩⟩, fun h6 => ⟨⟨k + 1, hlt, cells_step hkk ⟨h4, h5, fun h => (h6 h).elim⟩⟩, ?_, ?_⟩⟩, fun h5 hr => h5 (hr.2.2.2 k hlt hlt').2.1⟩
      · refine weak_mk rfl (by first | exact Nat.le_refl _ | (simp only [mk_gen]; omega)) ?_ ?_ <;> simp +decide only [w_lookup_nil, w_lookup_cons, ch_ch, ch_lit, lit_ch, wkT, wkH, wkB, WVL, WV_refl', Int.natCast_zero, Int.natCast_add, Int.natCast_one, Nat.sub_self, Nat.sub_zero, List.replicate_zero, List.take_zero, List.nil_append, List.append_nil, fillC_zero, Nat.reduceDiv, Nat.reduceAdd, upd_bk, bk_at, getB_zero, getB_succ, modB_zero, modB_succ, rows_lit, repB_zero, repB_succ, List.length_cons, List.length_nil, upd_upd_same, upd_apply, mk_tmp, mk_heap, mk_gen, lookupA, lookupH, List.getD_cons_zero, List.getD_cons_succ, init_two, tops, Bool.true_and, and_self, and_true, true_and, true_or, if_true, if_false, ite_true, ite_false, reduceCtorEq, reduceIte]
      · show _ - (k + 1) < _ - k
        omega
      · refine weak_mk rfl (by first | exact Nat.le_refl _ | (simp only [mk_gen]; omega)) ?_ ?_ <;> simp +decide only [w_lookup_nil, w_lookup_cons, ch_ch, ch_lit, lit_ch, wkT, wkH, wkB, WVL, WV_refl', Int.natCast_zero, Int.natCast_add, Int.natCast_one, Nat.sub_self, Nat.sub_zero, List.replicate_zero, List.take_zero, List.nil_append, List.append_nil, fillC_zero, Nat.reduceDiv, Nat.reduceAdd, upd_bk, bk_at, getB_zero, getB_succ, modB_zero, modB_succ, rows_lit, repB_zero, repB_succ, List.length_cons, List.length_nil, upd_upd_same, upd_apply, mk_tmp, mk_heap, mk_gen, lookupA, lookupH, List.getD_cons_zero, List.getD_cons_succ, init_two, tops, Bool.true_and, and_self, and_true, true_and, true_or, if_true, if_false, ite_true, ite_false, reduceCtorEq, reduceIte]
      · show _ - (k + 1) < _ - k
        omega
    · simp (config := { maxSteps := 1000000 }) +decide only [NoH, Old, OldL, nilQ, nilA, RechL, ReY, isNew, stepO, XPost, postN, XOk, updN, updU, isEff, avalue, aeff, ASt.eval, ASt.put, ASt.set, ASt.new, Nat.reduceDiv, Nat.reduceAdd, Int.reduceToNat, absV, absC, scalar, alen, acap, conc, flats, live, blkOf, aload, rd, part?, afieldAddr, afield, aindexAddr, cellsOf, afill, places, abuild, optI, asliceV, asliceS, szOk, srcCells, aappend, astore, amakeSlice, abuildSlice, snapL, mapO, treeL, AVal.tree, AVal.flatT, isFlat, ares, isFz, afroz, afrozB, lookupA, lookupH, tops, if_true, if_false, reduceCtorEq, forall_const, ite_true, ite_false, implies_true, walkS, tabS, Try.results14, hlt]
      exact ⟨h1, h2, h3, fun i p q => hkk i p q (by omega)⟩
def covK (sv : List Int) : Nat → List Int
  | 0 => []
  | k + 1 => if 0 ≤ sv.getD k (-1) then covK sv k ++ [(k : Int)] else covK sv k
theorem covK_yes {sv : List Int} {k : Nat} (h : k < sv.length) (h0 : 0 ≤ sv[k]) : covK sv (k + 1) = covK sv k ++ [(k : Int)] := by
  simp [covK, List.getD, List.getElem?_eq_getElem h, h0]
theorem covK_no {sv : List Int} {k : Nat} (h : k < sv.length) (h0 : ¬ 0 ≤ sv[k]) : covK sv (k + 1) = covK sv k := by
  simp [covK, List.getD, List.getElem?_eq_getElem h, h0]
theorem covK_le (sv : List Int) : ∀ k, (covK sv k).length ≤ k
  | 0 => Nat.le_refl _
  | k + 1 => by
    have := covK_le sv k
    unfold covK
    split
    · simp; omega
    · omega
def cov (sv : List Int) : List Int := covK sv sv.length
end Go.Proofs.Ytlcijhpjbkekpaa
