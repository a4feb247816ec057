/-
  OWN WORK: the best servers; the program's side.
-/
import Derived.Test.YtdbongnhdlbplaaRaT
namespace Go.Proofs.Ytdbongnhdlbplaa
open Go Go.Own Go.Proofs
set_option maxHeartbeats 4000000
set_option maxRecDepth 20000
set_option linter.unusedSimpArgs false
noncomputable def cellK (xss : List (List Int)) (least : Int) (c : Nat) : Nat → Int × Int
  | 0 => (-1, -300000)
  | i + 1 => if bp (least ≤ (xss.getD i []).getD c 0 ∧ ((cellK xss least c i).1 < 0 ∨ (cellK xss least c i).2 < (xss.getD i []).getD c 0)) then ((i : Int), (xss.getD i []).getD c 0) else cellK xss least c i
theorem bsK_cells (xss : List (List Int)) (least : Int) (n : Nat) : ∀ k, bsK xss least n k = ((List.range n).map fun c => (cellK xss least c k).1, (List.range n).map fun c => (cellK xss least c k).2)
  | 0 => by
    simp only [bsK, cellK, List.map_const', List.length_range]
  | k + 1 => by
    have ih := bsK_cells xss least n k
    obtain ⟨l1, l2⟩ := bsK_length xss least n k
    have hc : ∀ c, c < n → (adC (bsK xss least n k).1 (bsK xss least n k).2 (xss.getD k []) least c ↔ (least ≤ (xss.getD k []).getD c 0 ∧ ((cellK xss least c k).1 < 0 ∨ (cellK xss least c k).2 < (xss.getD k []).getD c 0))) := fun c hc => by
      have a1 : (bsK xss least n k).1.getD c 0 = (cellK xss least c k).1 := by rw [ih]; simp [List.getD, hc]
      have a2 : (bsK xss least n k).2.getD c 0 = (cellK xss least c k).2 := by rw [ih]; simp [List.getD, hc]
      unfold adC
      rw [a1, a2]
    refine Prod.ext ?_ ?_
    · refine List.ext_getElem (by rw [(bsK_length xss least n (k + 1)).1]; simp) fun c h1 _ => ?_
      have hcn : c < n := by rw [(bsK_length xss least n (k + 1)).1] at h1; exact h1
      have e : ((bsK xss least n (k + 1)).1)[c]'h1 = if bp (c < n ∧ adC (bsK xss least n k).1 (bsK xss least n k).2 (xss.getD k []) least c) then (k : Int) else (bsK xss least n k).1[c]'(by omega) := upK_get (v := fun _ => (k : Int)) (by omega)
      have e0 : (bsK xss least n k).1[c]'(by omega) = (cellK xss least c k).1 := by simp only [ih, List.getElem_map, List.getElem_range]
      rw [e, e0, List.getElem_map, List.getElem_range, cellK]
      by_cases h : adC (bsK xss least n k).1 (bsK xss least n k).2 (xss.getD k []) least c
      · rw [if_pos (by rw [bp_true]; exact ⟨hcn, h⟩), if_pos (by rw [bp_true]; exact (hc c hcn).1 h)]
      · rw [if_neg (by rw [bp_true]; exact fun q => h q.2), if_neg (by rw [bp_true]; exact fun q => h ((hc c hcn).2 q))]
    · refine List.ext_getElem (by rw [(bsK_length xss least n (k + 1)).2]; simp) fun c h1 _ => ?_
      have hcn : c < n := by rw [(bsK_length xss least n (k + 1)).2] at h1; exact h1
      have e : ((bsK xss least n (k + 1)).2)[c]'h1 = if bp (c < n ∧ adC (bsK xss least n k).1 (bsK xss least n k).2 (xss.getD k []) least c) then (xss.getD k []).getD c 0 else (bsK xss least n k).2[c]'(by omega) := upK_get (v := fun i => (xss.getD k []).getD i 0) (by omega)
      have e0 : (bsK xss least n k).2[c]'(by omega) = (cellK xss least c k).2 := by simp only [ih, List.getElem_map, List.getElem_range]
      rw [e, e0, List.getElem_map, List.getElem_range, cellK]
      by_cases h : adC (bsK xss least n k).1 (bsK xss least n k).2 (xss.getD k []) least c
      · rw [if_pos (by rw [bp_true]; exact ⟨hcn, h⟩), if_pos (by rw [bp_true]; exact (hc c hcn).1 h)]
      · rw [if_neg (by rw [bp_true]; exact fun q => h q.2), if_neg (by rw [bp_true]; exact fun q => h ((hc c hcn).2 q))]
noncomputable def bsS (xss : List (List Int)) (least : Int) (c : Nat) : List Int := (List.range c).map fun c => (cellK xss least c xss.length).1
noncomputable def bsL (xss : List (List Int)) (least : Int) (c : Nat) : List Int := (List.range c).map fun c => (cellK xss least c xss.length).2
theorem bsS_length (xss : List (List Int)) (least : Int) (c : Nat) : (bsS xss least c).length = c := by simp [bsS]
theorem bsL_length (xss : List (List Int)) (least : Int) (c : Nat) : (bsL xss least c).length = c := by simp [bsL]
theorem bsS_snoc (xss : List (List Int)) (least : Int) (c : Nat) : bsS xss least c ++ [(cellK xss least c xss.length).1] = bsS xss least (c + 1) := by simp [bsS, List.range_succ]
theorem bsL_snoc (xss : List (List Int)) (least : Int) (c : Nat) : bsL xss least c ++ [(cellK xss least c xss.length).2] = bsL xss least (c + 1) := by simp [bsL, List.range_succ]
theorem denx_bestServers (s w h : Int) (xss : List (List Int)) (least : Int) (n : Nat) (hwh : w * h = n) (hn : n ≤ 1000000) (hrow : ∀ i (hi : i < xss.length), xss[i].length = n) : DenX Try.prog 72 [xi s, xi w, xi h, .v (intss xss), xi least] [xi s, xi w, xi h, .v (intss xss), xi least] (rasX s w h (bsK xss least n xss.length).1 (bsK xss least n xss.length).2) := by
  have eK : bsK xss least n xss.length = (bsS xss least n, bsL xss least n) := bsK_cells xss least n xss.length
  rw [eK]
  refine denx_of_awpG (ghs [] [61, 66]) Try.func72 rfl (by kernel_rfl) (Nat.le_of_ble_eq_true rfl) (by simp (config := {decide := true}) only [w_embA_nil, w_embA_cons, w_emb_v, w_emb_ol, w_emb_op, w_emb_agg, w_emb_tup, w_embL_nil, w_embL_cons, embL_i, List.map_cons, List.map_nil, List.nil_append, List.append_nil, List.cons_append, List.nodup_cons, List.nodup_nil, List.mem_cons, List.mem_nil_iff, List.not_mem_nil, ch_ch, ch_lit, lit_ch, Nat.reduceAdd]) mixed (by kernel_rfl) fun hl => ?_
  simp only [xlensL, xlens, lensL, lens, lensL_i, lensL_mapC, xlensL_i, maxI, and_true, true_and] at hl
  rw [Try.ntmps72]
  refine ex_start ?_
  have hwr : IntKind.i64.wrap (w * h) = (n : Int) := (wrap64 (by omega) (by omega)).trans hwh
  simp (config := {decide := true, maxSteps := 1000000}) only [NoH, Old, OldL, nilQ, nilA, RechL, ReY, isNew, stepO, XPost, postN, XOk, updN, updU, isEff, avalue, aeff, ASt.eval, ASt.put, ASt.set, ASt.new, Nat.reduceDiv, Nat.reduceAdd, Int.reduceToNat, absV, absC, scalar, alen, acap, conc, flats, live, blkOf, aload, rd, part?, afieldAddr, afield, aindexAddr, cellsOf, afill, places, abuild, optI, asliceV, asliceS, szOk, srcCells, aappend, astore, amakeSlice, abuildSlice, snapL, mapO, treeL, AVal.tree, AVal.flatT, isFlat, ares, isFz, afroz, afrozB, lookupA, lookupH, tops, if_true, if_false, reduceCtorEq, forall_const, ite_true, ite_false, implies_true, walkS, tabS, Try.results72, hwr]
  refine ex_loop (fun p : {p : Nat × Nat × Nat × Nat // p.1 ≤ n} => mkG (ghs [] [61, 66]) [(3, intss xss), (4, .i least), (10, .ptr 10 1 0), (11, .ptr 11 2 0), (23, .i n), (24, .i p.1.1)] [(10, ⟨1, 5, [.i 0, .i 0, .i 0, .nl, .nl]⟩), (11, ⟨2, 5, [.i s, .i w, .i h, .own 62 p.1.2.1 0 p.1.1, .own 67 p.1.2.2.1 0 p.1.1]⟩), (62, ⟨p.1.2.1, 1, mapC AVal.i (bsS xss least p.1.1)⟩), (67, ⟨p.1.2.2.1, 1, mapC AVal.i (bsL xss least p.1.1)⟩)] p.1.2.2.2 72) (fun p => n - p.1.1) ⟨(0, 3, 4, 5), by simp⟩ ?_ ?_
  · refine weak_mk rfl (by first | exact Nat.le_refl _ | (simp only [mk_gen]; omega)) ?_ ?_ <;> simp (config := {decide := true}) only [w_lookup_nil, w_lookup_cons, ch_ch, ch_lit, lit_ch, wkT, wkH, wkB, WVL, WV_refl', Int.natCast_zero, Int.natCast_add, Int.natCast_one, Nat.sub_self, Nat.sub_zero, List.replicate_zero, List.take_zero, List.nil_append, List.append_nil, fillC_zero, Nat.reduceDiv, Nat.reduceAdd, upd_bk, bk_at, getB_zero, getB_succ, modB_zero, modB_succ, rows_lit, repB_zero, repB_succ, List.length_cons, List.length_nil, upd_upd_same, upd_apply, mk_tmp, mk_heap, mk_gen, lookupA, lookupH, List.getD_cons_zero, List.getD_cons_succ, init_two, tops, Bool.true_and, and_self, and_true, true_and, true_or, if_true, if_false, ite_true, ite_false, reduceCtorEq, reduceIte, mapC_nil, bsS, bsL, List.range_zero, List.map_nil]
    exact .inr ⟨WV_nl rfl rfl rfl rfl, WV_nl rfl rfl rfl rfl⟩
  · rintro ⟨⟨c, g3, g4, G⟩, hk⟩
    have hk' : c ≤ n := hk
    by_cases klt : c < n
    · have hw : IntKind.i64.wrap ((c : Int) + 1) = ((c + 1 : Nat) : Int) := wrap64 (by omega) (by omega)
      have h8 : (c + 1) * 8 ≤ 140737488355328 := by omega
      simp (config := {decide := true, maxSteps := 1000000}) only [NoH, Old, OldL, nilQ, nilA, RechL, ReY, isNew, stepO, XPost, postN, XOk, updN, updU, isEff, avalue, aeff, ASt.eval, ASt.put, ASt.set, ASt.new, Nat.reduceDiv, Nat.reduceAdd, Int.reduceToNat, absV, absC, scalar, alen, acap, conc, flats, live, blkOf, aload, rd, part?, afieldAddr, afield, aindexAddr, cellsOf, afill, places, abuild, optI, asliceV, asliceS, szOk, srcCells, aappend, astore, amakeSlice, abuildSlice, snapL, mapO, treeL, AVal.tree, AVal.flatT, isFlat, ares, isFz, afroz, afrozB, lookupA, lookupH, tops, if_true, if_false, reduceCtorEq, forall_const, ite_true, ite_false, implies_true, walkS, tabS, Try.results72, klt, hwr]
      refine ex_loop (fun i : {i : Nat // i ≤ xss.length} => mkG (ghs [] [61, 66]) [(3, intss xss), (4, .i least), (10, .ptr 10 1 0), (11, .ptr 11 2 0), (12, .i c), (13, .i (cellK xss least c i).1), (14, .i (cellK xss least c i).2), (23, .i n), (24, .i c), (27, intss xss), (28, .i xss.length), (29, .i i)] [(10, ⟨1, 5, [.i 0, .i 0, .i 0, .nl, .nl]⟩), (11, ⟨2, 5, [.i s, .i w, .i h, .own 62 g3 0 c, .own 67 g4 0 c]⟩), (62, ⟨g3, 1, mapC AVal.i (bsS xss least c)⟩), (67, ⟨g4, 1, mapC AVal.i (bsL xss least c)⟩)] G 72) (fun i => xss.length - i) ⟨0, by simp⟩ ?_ ?_
      · refine weak_mk rfl (by first | exact Nat.le_refl _ | (simp only [mk_gen]; omega)) ?_ ?_ <;> simp (config := {decide := true}) only [w_lookup_nil, w_lookup_cons, ch_ch, ch_lit, lit_ch, wkT, wkH, wkB, WVL, WV_refl', Int.natCast_zero, Int.natCast_add, Int.natCast_one, Nat.sub_self, Nat.sub_zero, List.replicate_zero, List.take_zero, List.nil_append, List.append_nil, fillC_zero, Nat.reduceDiv, Nat.reduceAdd, upd_bk, bk_at, getB_zero, getB_succ, modB_zero, modB_succ, rows_lit, repB_zero, repB_succ, List.length_cons, List.length_nil, upd_upd_same, upd_apply, mk_tmp, mk_heap, mk_gen, lookupA, lookupH, List.getD_cons_zero, List.getD_cons_succ, init_two, tops, Bool.true_and, and_self, and_true, true_and, true_or, if_true, if_false, ite_true, ite_false, reduceCtorEq, reduceIte, cellK]
      · rintro ⟨i, hi⟩
        by_cases ilt : i < xss.length
        · have hwi : IntKind.i64.wrap ((i : Int) + 1) = ((i + 1 : Nat) : Int) := wrap64 (by omega) (by omega)
          have hr := hrow i ilt
          have hcl : c < xss[i].length := by omega
          have eg : (xss.getD i []).getD c 0 = xss[i][c] := by simp [List.getD, ilt, hcl]
          have hm : xss.length - (i + 1) < xss.length - i := by omega
          have hcd : (least ≤ (xss.getD i []).getD c 0 ∧ ((cellK xss least c i).1 < 0 ∨ (cellK xss least c i).2 < (xss.getD i []).getD c 0)) ↔ (least ≤ xss[i][c] ∧ ((cellK xss least c i).1 < 0 ∨ (cellK xss least c i).2 < xss[i][c])) := by rw [eg]
          have yes : (least ≤ xss[i][c] ∧ ((cellK xss least c i).1 < 0 ∨ (cellK xss least c i).2 < xss[i][c])) → cellK xss least c (i + 1) = ((i : Int), xss[i][c]) := fun h => by
            rw [cellK, if_pos (by rw [bp_true]; exact hcd.2 h), eg]
          have no : ¬ (least ≤ xss[i][c] ∧ ((cellK xss least c i).1 < 0 ∨ (cellK xss least c i).2 < xss[i][c])) → cellK xss least c (i + 1) = cellK xss least c i := fun h => by
            rw [cellK, if_neg (by rw [bp_true]; exact fun q => h (hcd.1 q))]
          by_cases d1 : least ≤ xss[i][c]
          · by_cases d2 : (cellK xss least c i).1 < 0
            · have m := yes ⟨d1, .inl d2⟩
              simp (config := {decide := true, maxSteps := 1000000}) only [NoH, Old, OldL, nilQ, nilA, RechL, ReY, isNew, stepO, XPost, postN, XOk, updN, updU, isEff, avalue, aeff, ASt.eval, ASt.put, ASt.set, ASt.new, Nat.reduceDiv, Nat.reduceAdd, Int.reduceToNat, absV, absC, scalar, alen, acap, conc, flats, live, blkOf, aload, rd, part?, afieldAddr, afield, aindexAddr, cellsOf, afill, places, abuild, optI, asliceV, asliceS, szOk, srcCells, aappend, astore, amakeSlice, abuildSlice, snapL, mapO, treeL, AVal.tree, AVal.flatT, isFlat, ares, isFz, afroz, afrozB, lookupA, lookupH, tops, if_true, if_false, reduceCtorEq, forall_const, ite_true, ite_false, implies_true, walkS, tabS, Try.results72, hwi, ilt, hcl, eq_true d1, eq_true d2]
              refine ⟨⟨i + 1, ilt⟩, ?_, hm⟩
              refine weak_mk rfl (by first | exact Nat.le_refl _ | (simp only [mk_gen]; omega)) ?_ ?_ <;> simp (config := {decide := true}) only [w_lookup_nil, w_lookup_cons, ch_ch, ch_lit, lit_ch, wkT, wkH, wkB, WVL, WV_refl', Int.natCast_zero, Int.natCast_add, Int.natCast_one, Nat.sub_self, Nat.sub_zero, List.replicate_zero, List.take_zero, List.nil_append, List.append_nil, fillC_zero, Nat.reduceDiv, Nat.reduceAdd, upd_bk, bk_at, getB_zero, getB_succ, modB_zero, modB_succ, rows_lit, repB_zero, repB_succ, List.length_cons, List.length_nil, upd_upd_same, upd_apply, mk_tmp, mk_heap, mk_gen, lookupA, lookupH, List.getD_cons_zero, List.getD_cons_succ, init_two, tops, Bool.true_and, and_self, and_true, true_and, true_or, if_true, if_false, ite_true, ite_false, reduceCtorEq, reduceIte, m]
            · by_cases d3 : (cellK xss least c i).2 < xss[i][c]
              · have m := yes ⟨d1, .inr d3⟩
                simp (config := {decide := true, maxSteps := 1000000}) only [NoH, Old, OldL, nilQ, nilA, RechL, ReY, isNew, stepO, XPost, postN, XOk, updN, updU, isEff, avalue, aeff, ASt.eval, ASt.put, ASt.set, ASt.new, Nat.reduceDiv, Nat.reduceAdd, Int.reduceToNat, absV, absC, scalar, alen, acap, conc, flats, live, blkOf, aload, rd, part?, afieldAddr, afield, aindexAddr, cellsOf, afill, places, abuild, optI, asliceV, asliceS, szOk, srcCells, aappend, astore, amakeSlice, abuildSlice, snapL, mapO, treeL, AVal.tree, AVal.flatT, isFlat, ares, isFz, afroz, afrozB, lookupA, lookupH, tops, if_true, if_false, reduceCtorEq, forall_const, ite_true, ite_false, implies_true, walkS, tabS, Try.results72, hwi, ilt, hcl, eq_true d1, eq_false d2, eq_true d3]
                refine ⟨⟨i + 1, ilt⟩, ?_, hm⟩
                refine weak_mk rfl (by first | exact Nat.le_refl _ | (simp only [mk_gen]; omega)) ?_ ?_ <;> simp (config := {decide := true}) only [w_lookup_nil, w_lookup_cons, ch_ch, ch_lit, lit_ch, wkT, wkH, wkB, WVL, WV_refl', Int.natCast_zero, Int.natCast_add, Int.natCast_one, Nat.sub_self, Nat.sub_zero, List.replicate_zero, List.take_zero, List.nil_append, List.append_nil, fillC_zero, Nat.reduceDiv, Nat.reduceAdd, upd_bk, bk_at, getB_zero, getB_succ, modB_zero, modB_succ, rows_lit, repB_zero, repB_succ, List.length_cons, List.length_nil, upd_upd_same, upd_apply, mk_tmp, mk_heap, mk_gen, lookupA, lookupH, List.getD_cons_zero, List.getD_cons_succ, init_two, tops, Bool.true_and, and_self, and_true, true_and, true_or, if_true, if_false, ite_true, ite_false, reduceCtorEq, reduceIte, m]
              · have m := no (fun h => h.2.elim d2 d3)
                simp (config := {decide := true, maxSteps := 1000000}) only [NoH, Old, OldL, nilQ, nilA, RechL, ReY, isNew, stepO, XPost, postN, XOk, updN, updU, isEff, avalue, aeff, ASt.eval, ASt.put, ASt.set, ASt.new, Nat.reduceDiv, Nat.reduceAdd, Int.reduceToNat, absV, absC, scalar, alen, acap, conc, flats, live, blkOf, aload, rd, part?, afieldAddr, afield, aindexAddr, cellsOf, afill, places, abuild, optI, asliceV, asliceS, szOk, srcCells, aappend, astore, amakeSlice, abuildSlice, snapL, mapO, treeL, AVal.tree, AVal.flatT, isFlat, ares, isFz, afroz, afrozB, lookupA, lookupH, tops, if_true, if_false, reduceCtorEq, forall_const, ite_true, ite_false, implies_true, walkS, tabS, Try.results72, hwi, ilt, hcl, eq_true d1, eq_false d2, eq_false d3]
                refine ⟨⟨i + 1, ilt⟩, ?_, hm⟩
                refine weak_mk rfl (by first | exact Nat.le_refl _ | (simp only [mk_gen]; omega)) ?_ ?_ <;> simp (config := {decide := true}) only [w_lookup_nil, w_lookup_cons, ch_ch, ch_lit, lit_ch, wkT, wkH, wkB, WVL, WV_refl', Int.natCast_zero, Int.natCast_add, Int.natCast_one, Nat.sub_self, Nat.sub_zero, List.replicate_zero, List.take_zero, List.nil_append, List.append_nil, fillC_zero, Nat.reduceDiv, Nat.reduceAdd, upd_bk, bk_at, getB_zero, getB_succ, modB_zero, modB_succ, rows_lit, repB_zero, repB_succ, List.length_cons, List.length_nil, upd_upd_same, upd_apply, mk_tmp, mk_heap, mk_gen, lookupA, lookupH, List.getD_cons_zero, List.getD_cons_succ, init_two, tops, Bool.true_and, and_self, and_true, true_and, true_or, if_true, if_false, ite_true, ite_false, reduceCtorEq, reduceIte, m]
          · have m := no (fun h => d1 h.1)
            simp (config := {decide := true, maxSteps := 1000000}) only [NoH, Old, OldL, nilQ, nilA, RechL, ReY, isNew, stepO, XPost, postN, XOk, updN, updU, isEff, avalue, aeff, ASt.eval, ASt.put, ASt.set, ASt.new, Nat.reduceDiv, Nat.reduceAdd, Int.reduceToNat, absV, absC, scalar, alen, acap, conc, flats, live, blkOf, aload, rd, part?, afieldAddr, afield, aindexAddr, cellsOf, afill, places, abuild, optI, asliceV, asliceS, szOk, srcCells, aappend, astore, amakeSlice, abuildSlice, snapL, mapO, treeL, AVal.tree, AVal.flatT, isFlat, ares, isFz, afroz, afrozB, lookupA, lookupH, tops, if_true, if_false, reduceCtorEq, forall_const, ite_true, ite_false, implies_true, walkS, tabS, Try.results72, hwi, ilt, hcl, eq_false d1]
            refine ⟨⟨i + 1, ilt⟩, ?_, hm⟩
            refine weak_mk rfl (by first | exact Nat.le_refl _ | (simp only [mk_gen]; omega)) ?_ ?_ <;> simp (config := {decide := true}) only [w_lookup_nil, w_lookup_cons, ch_ch, ch_lit, lit_ch, wkT, wkH, wkB, WVL, WV_refl', Int.natCast_zero, Int.natCast_add, Int.natCast_one, Nat.sub_self, Nat.sub_zero, List.replicate_zero, List.take_zero, List.nil_append, List.append_nil, fillC_zero, Nat.reduceDiv, Nat.reduceAdd, upd_bk, bk_at, getB_zero, getB_succ, modB_zero, modB_succ, rows_lit, repB_zero, repB_succ, List.length_cons, List.length_nil, upd_upd_same, upd_apply, mk_tmp, mk_heap, mk_gen, lookupA, lookupH, List.getD_cons_zero, List.getD_cons_succ, init_two, tops, Bool.true_and, and_self, and_true, true_and, true_or, if_true, if_false, ite_true, ite_false, reduceCtorEq, reduceIte, m]
        · have e : i = xss.length := by omega
          subst e
          have t1 : List.take c (bsS xss least c) = bsS xss least c := List.take_of_length_le (by rw [bsS_length]; omega)
          have t2 : List.take c (bsL xss least c) = bsL xss least c := List.take_of_length_le (by rw [bsL_length]; omega)
          have b1 := bsS_length xss least c
          have b2 := bsL_length xss least c
          have r1 := bsS_snoc xss least c
          have r2 := bsL_snoc xss least c
          simp (config := {decide := true, maxSteps := 1000000}) only [NoH, Old, OldL, nilQ, nilA, RechL, ReY, isNew, stepO, XPost, postN, XOk, updN, updU, isEff, avalue, aeff, ASt.eval, ASt.put, ASt.set, ASt.new, Nat.reduceDiv, Nat.reduceAdd, Int.reduceToNat, absV, absC, scalar, alen, acap, conc, flats, live, blkOf, aload, rd, part?, afieldAddr, afield, aindexAddr, cellsOf, afill, places, abuild, optI, asliceV, asliceS, szOk, srcCells, aappend, astore, amakeSlice, abuildSlice, snapL, mapO, treeL, AVal.tree, AVal.flatT, isFlat, ares, isFz, afroz, afrozB, lookupA, lookupH, tops, if_true, if_false, reduceCtorEq, forall_const, ite_true, ite_false, implies_true, walkS, tabS, Try.results72, ilt, hw, klt, h8, b1, b2, t1, t2, List.replicate_succ, List.replicate_zero, List.set_cons_zero, List.length_cons, List.length_nil, List.flatten_cons, List.flatten_nil, mapC_snoc]
          refine ⟨⟨(c + 1, G, G + 1, G + 2), klt⟩, ?_, by show _ - (c + 1) < _ - c; omega⟩
          refine weak_mk rfl (by first | exact Nat.le_refl _ | (simp only [mk_gen]; omega)) ?_ ?_ <;> simp (config := {decide := true}) only [w_lookup_nil, w_lookup_cons, ch_ch, ch_lit, lit_ch, wkT, wkH, wkB, WVL, WV_refl', Int.natCast_zero, Int.natCast_add, Int.natCast_one, Nat.sub_self, Nat.sub_zero, List.replicate_zero, List.take_zero, List.nil_append, List.append_nil, fillC_zero, Nat.reduceDiv, Nat.reduceAdd, upd_bk, bk_at, getB_zero, getB_succ, modB_zero, modB_succ, rows_lit, repB_zero, repB_succ, List.length_cons, List.length_nil, upd_upd_same, upd_apply, mk_tmp, mk_heap, mk_gen, lookupA, lookupH, List.getD_cons_zero, List.getD_cons_succ, init_two, tops, Bool.true_and, and_self, and_true, true_and, true_or, if_true, if_false, ite_true, ite_false, reduceCtorEq, reduceIte, r1, r2]
    · have e : c = n := by omega
      subst e
      have b1 := bsS_length xss least c
      have b2 := bsL_length xss least c
      have t1 : List.take c (bsS xss least c) = bsS xss least c := List.take_of_length_le (by omega)
      have t2 : List.take c (bsL xss least c) = bsL xss least c := List.take_of_length_le (by omega)
      simp (config := {decide := true, maxSteps := 1000000}) only [NoH, Old, OldL, nilQ, nilA, RechL, ReY, isNew, stepO, XPost, postN, XOk, updN, updU, isEff, avalue, aeff, ASt.eval, ASt.put, ASt.set, ASt.new, Nat.reduceDiv, Nat.reduceAdd, Int.reduceToNat, absV, absC, scalar, alen, acap, conc, flats, live, blkOf, aload, rd, part?, afieldAddr, afield, aindexAddr, cellsOf, afill, places, abuild, optI, asliceV, asliceS, szOk, srcCells, aappend, astore, amakeSlice, abuildSlice, snapL, mapO, treeL, AVal.tree, AVal.flatT, isFlat, ares, isFz, afroz, afrozB, lookupA, lookupH, tops, if_true, if_false, reduceCtorEq, forall_const, ite_true, ite_false, implies_true, walkS, tabS, Try.results72, hwr, klt, t1, t2, b1, b2, rasX]
end Go.Proofs.Ytdbongnhdlbplaa
