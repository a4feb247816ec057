/-
  OWN WORK: servers added one after the other; the reference's side.
-/
import Derived.Test.YtiaemddmkmfijaaDoorRaR
namespace Go.Proofs.YtiaemddmkmfijaaDoor
open Go Go.Own Go.Proofs
set_option maxHeartbeats 4000000
set_option maxRecDepth 20000
set_option linter.unusedSimpArgs false
theorem rep_snoc (n : Nat) (x : Int) : List.replicate n x ++ [x] = List.replicate (n + 1) x := List.replicate_succ'.symm
theorem denx_l20Empty (s w h : Int) (n : Nat) (hwh : w * h = n) (hn : n ≤ 1000000) (_ : 0 ≤ w) (_ : 0 ≤ h) : DenX Tryd.prog 101 [xi s, xi w, xi h] [xi s, xi w, xi h] (rasX s w h (List.replicate n (-1)) (List.replicate n (-300000))) := by
  refine denx_of_awpG (ghs [] [22, 27]) Tryd.func101 rfl (by kernel_rfl) (Nat.le_of_ble_eq_true rfl) (by simp +decide only [w_embA_nil, w_embA_cons, w_emb_v, w_emb_ol, w_emb_op, w_emb_agg, w_emb_tup, w_embL_nil, w_embL_cons, embL_i, List.map_cons, List.map_nil, List.nil_append, List.append_nil, List.cons_append, List.nodup_cons, List.nodup_nil, List.mem_cons, List.mem_nil_iff, List.not_mem_nil, ch_ch, ch_lit, lit_ch, Nat.reduceAdd]) mixed (by kernel_rfl) fun hl => ?_
  simp only [xlensL, xlens, lensL, lens, lensL_i, lensL_mapC, xlensL_i, maxI, and_true, true_and] at hl
  rw [Tryd.ntmps101]
  refine ex_start ?_
  have hwr : IntKind.i64.wrap (w * h) = (n : Int) := (wrap64 (by omega) (by omega)).trans hwh
  simp (config := { maxSteps := 1000000 }) +decide only [NoH, Old, OldL, nilQ, nilA, asgn, nz, RechL, ReY, isNew, stepO, XPost, postN, XOk, updN, updU, isEff, avalue, aeff, ASt.eval, ASt.put, ASt.set, ASt.new, Nat.reduceDiv, Nat.reduceAdd, Int.reduceToNat, absV, absC, scalar, alen, acap, conc, flats, live, blkOf, aload, rd, part?, afieldAddr, afield, aindexAddr, cellsOf, afill, places, abuild, optI, asliceV, asliceS, szOk, srcCells, aappend, acopy, astore, amakeSlice, abuildSlice, snapL, mapO, treeL, AVal.tree, AVal.flatT, isFlat, ares, isFz, afroz, afrozB, lookupA, lookupH, tops, if_true, if_false, reduceCtorEq, forall_const, ite_true, ite_false, implies_true, walkS, tabS, Tryd.results101]
  refine ex_loop (fun p : {p : Nat × Nat × Nat × Nat // p.1 ≤ n} => mkG (ghs [] [22, 27]) [(1, .i w), (2, .i h), (6, .ptr 6 1 0), (7, .ptr 7 2 0), (8, .i p.1.1)] [(6, ⟨1, 5, [.i 0, .i 0, .i 0, .nl, .nl]⟩), (7, ⟨2, 5, [.i s, .i w, .i h, .own 23 p.1.2.1 0 p.1.1, .own 28 p.1.2.2.1 0 p.1.1]⟩), (23, ⟨p.1.2.1, 1, mapC AVal.i (List.replicate p.1.1 (-1))⟩), (28, ⟨p.1.2.2.1, 1, mapC AVal.i (List.replicate p.1.1 (-300000))⟩)] p.1.2.2.2 31) (fun p => n - p.1.1) ⟨(0, 3, 4, 5), by simp⟩ ?_ ?_
  · refine weak_mk rfl (by first | exact Nat.le_refl _ | (simp only [mk_gen]; omega)) ?_ ?_ <;> simp +decide only [w_lookup_nil, w_lookup_cons, ch_ch, ch_lit, lit_ch, wkT, wkH, wkB, WVL, WV_refl', Int.natCast_zero, Int.natCast_add, Int.natCast_one, Nat.sub_self, Nat.sub_zero, List.replicate_zero, List.take_zero, List.nil_append, List.append_nil, fillC_zero, Nat.reduceDiv, Nat.reduceAdd, upd_bk, bk_at, getB_zero, getB_succ, modB_zero, modB_succ, rows_lit, repB_zero, repB_succ, List.length_cons, List.length_nil, upd_upd_same, upd_apply, mk_tmp, mk_heap, mk_gen, lookupA, lookupH, List.getD_cons_zero, List.getD_cons_succ, init_two, tops, Bool.true_and, and_self, and_true, true_and, true_or, if_true, if_false, ite_true, ite_false, reduceCtorEq, reduceIte, mapC_nil]
    exact .inr ⟨WV_nl rfl rfl rfl rfl, WV_nl rfl rfl rfl rfl⟩
  · rintro ⟨⟨k, g3, g4, G⟩, hk⟩
    have hk' : k ≤ n := hk
    by_cases klt : k < n
    · have hw : IntKind.i64.wrap ((k : Int) + 1) = ((k + 1 : Nat) : Int) := wrap64 (by omega) (by omega)
      have h8 : (k + 1) * 8 ≤ 140737488355328 := by omega
      have r1 := rep_snoc k (-1)
      have r2 := rep_snoc k (-300000)
      have t1 : List.take k (List.replicate k (-1 : Int)) = List.replicate k (-1) := List.take_of_length_le (by simp)
      have t2 : List.take k (List.replicate k (-300000 : Int)) = List.replicate k (-300000) := List.take_of_length_le (by simp)
      simp (config := { maxSteps := 1000000 }) +decide only [NoH, Old, OldL, nilQ, nilA, asgn, nz, RechL, ReY, isNew, stepO, XPost, postN, XOk, updN, updU, isEff, avalue, aeff, ASt.eval, ASt.put, ASt.set, ASt.new, Nat.reduceDiv, Nat.reduceAdd, Int.reduceToNat, absV, absC, scalar, alen, acap, conc, flats, live, blkOf, aload, rd, part?, afieldAddr, afield, aindexAddr, cellsOf, afill, places, abuild, optI, asliceV, asliceS, szOk, srcCells, aappend, acopy, astore, amakeSlice, abuildSlice, snapL, mapO, treeL, AVal.tree, AVal.flatT, isFlat, ares, isFz, afroz, afrozB, lookupA, lookupH, tops, if_true, if_false, reduceCtorEq, forall_const, ite_true, ite_false, implies_true, walkS, tabS, Tryd.results101, hwr, hw, klt, h8, t1, t2, List.replicate_succ, List.flatten_cons, List.flatten_nil, mapC_snoc]
      refine ⟨⟨(k + 1, G, G + 1, G + 2), klt⟩, ?_, by show _ - (k + 1) < _ - k; omega⟩
      refine weak_mk rfl (by first | exact Nat.le_refl _ | (simp only [mk_gen]; omega)) ?_ ?_ <;> simp +decide only [w_lookup_nil, w_lookup_cons, ch_ch, ch_lit, lit_ch, wkT, wkH, wkB, WVL, WV_refl', Int.natCast_zero, Int.natCast_add, Int.natCast_one, Nat.sub_self, Nat.sub_zero, List.replicate_zero, List.take_zero, List.nil_append, List.append_nil, fillC_zero, Nat.reduceDiv, Nat.reduceAdd, upd_bk, bk_at, getB_zero, getB_succ, modB_zero, modB_succ, rows_lit, repB_zero, repB_succ, List.length_cons, List.length_nil, upd_upd_same, upd_apply, mk_tmp, mk_heap, mk_gen, lookupA, lookupH, List.getD_cons_zero, List.getD_cons_succ, init_two, tops, Bool.true_and, and_self, and_true, true_and, true_or, if_true, if_false, ite_true, ite_false, reduceCtorEq, reduceIte, r1, r2]
    · have e : k = n := by omega
      subst e
      have t1 : List.take k (List.replicate k (-1 : Int)) = List.replicate k (-1) := List.take_of_length_le (by simp)
      have t2 : List.take k (List.replicate k (-300000 : Int)) = List.replicate k (-300000) := List.take_of_length_le (by simp)
      simp (config := { maxSteps := 1000000 }) +decide only [NoH, Old, OldL, nilQ, nilA, asgn, nz, RechL, ReY, isNew, stepO, XPost, postN, XOk, updN, updU, isEff, avalue, aeff, ASt.eval, ASt.put, ASt.set, ASt.new, Nat.reduceDiv, Nat.reduceAdd, Int.reduceToNat, absV, absC, scalar, alen, acap, conc, flats, live, blkOf, aload, rd, part?, afieldAddr, afield, aindexAddr, cellsOf, afill, places, abuild, optI, asliceV, asliceS, szOk, srcCells, aappend, acopy, astore, amakeSlice, abuildSlice, snapL, mapO, treeL, AVal.tree, AVal.flatT, isFlat, ares, isFz, afroz, afrozB, lookupA, lookupH, tops, if_true, if_false, reduceCtorEq, forall_const, ite_true, ite_false, implies_true, walkS, tabS, Tryd.results101, hwr, klt, t1, t2, rasX]
end Go.Proofs.YtiaemddmkmfijaaDoor
