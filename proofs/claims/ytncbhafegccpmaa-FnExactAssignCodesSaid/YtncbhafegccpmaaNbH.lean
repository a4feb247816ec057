/-
  OWN WORK: pairs of items for which something is so.
-/
import Derived.Test.YtncbhafegccpmaaNbG
namespace Go.Proofs.Ytncbhafegccpmaa
open Go Go.Own Go.Proofs
set_option maxHeartbeats 4000000
set_option maxRecDepth 20000
set_option linter.unusedSimpArgs false
noncomputable def parRow (q : Int → Int → Prop) (i k : Nat) : List (List Int) := (plK (fun y => (i : Int) < y ∧ q i y) k).map fun y => [(i : Int), y]
noncomputable def parK (q : Int → Int → Prop) (n : Nat) : Nat → List (List Int)
  | 0 => []
  | i + 1 => parK q n i ++ parRow q i n
noncomputable def parJ (q : Int → Int → Prop) (n i k : Nat) : List (List Int) := parK q n i ++ parRow q i k
theorem parRow_first (q : Int → Int → Prop) (i : Nat) : ∀ k, k ≤ i + 1 → parRow q i k = []
  | 0, _ => rfl
  | k + 1, h => by
    have ih := parRow_first q i k (by omega)
    unfold parRow at ih ⊢
    rw [plK_no (by omega)]
    exact ih
section
variable {q : Int → Int → Prop} {n i k : Nat}
theorem parJ_first : parJ q n i (i + 1) = parK q n i := by rw [parJ, parRow_first q i (i + 1) (Nat.le_refl _), List.append_nil]
theorem parJ_all : parJ q n i n = parK q n (i + 1) := rfl
theorem parJ_yes (hik : i < k) (h : q i k) : parJ q n i (k + 1) = parJ q n i k ++ [[(i : Int), (k : Int)]] := by
  unfold parJ parRow
  rw [plK_yes (q := fun y => (i : Int) < y ∧ q i y) ⟨by omega, h⟩, List.map_append, List.append_assoc]
  rfl
theorem parJ_no (h : ¬ q i k) : parJ q n i (k + 1) = parJ q n i k := by
  unfold parJ parRow
  rw [plK_no (q := fun y => (i : Int) < y ∧ q i y) (fun hc => h hc.2)]
theorem parRow_le (q : Int → Int → Prop) (i k : Nat) : (parRow q i k).length ≤ k := by
  unfold parRow
  rw [List.length_map]
  exact plK_le _ _
end
theorem parK_le (q : Int → Int → Prop) (n : Nat) (hn : n ≤ 24) : ∀ i, (parK q n i).length ≤ 24 * i
  | 0 => by simp [parK]
  | i + 1 => by
    have ih := parK_le q n hn i
    have := parRow_le q i n
    rw [parK, List.length_append]
    omega
theorem parK_two {q : Int → Int → Prop} {n : Nat} : ∀ i, ∀ x ∈ parK q n i, x.length = 2
  | 0, x, hx => by simp [parK] at hx
  | i + 1, x, hx => by
    rcases List.mem_append.1 hx with e | e
    · exact parK_two i x e
    · obtain ⟨k, _, rfl⟩ := List.mem_map.1 e
      rfl
theorem denx_itemPairs (n : Nat) (f : FuncId) (cs : List AVal) (q : Int → Int → Prop) (hn : n ≤ 24) (hcs : treeL cs = true) (hp : ∀ i k : Nat, i < n → k < n → Den Try.prog f ([.i i, .i k] ++ cs) (.b (bp (q i k)))) (hs : ∀ s, snapL s cs = some cs) (hm : ∀ s, mapO (snap 5 s) cs = some cs) :
    DenX Try.prog 70 [xi n, .v (.clo f cs)] [xi n, .v (.clo f cs)] (.ol 1 (mapC xints (parK q n n)) (parK q n n).length) := by
  refine denx_of_awp Try.func70 rfl (by kernel_rfl) (Nat.le_of_ble_eq_true rfl) (by simp (config := {decide := true}) only [w_embA_nil, w_embA_cons, w_emb_v, w_emb_ol, w_emb_op, w_emb_agg, w_emb_tup, w_embL_nil, w_embL_cons, embL_i, List.map_cons, List.map_nil, List.nil_append, List.append_nil, List.cons_append, List.nodup_cons, List.nodup_nil, List.mem_cons, List.mem_nil_iff, List.not_mem_nil, ch_ch, ch_lit, lit_ch, Nat.reduceAdd]) mixed (by kernel_rfl) fun hl => ?_
  simp only [xlensL, xlens, lensL, lens, lensL_i, lensL_mapC, xlensL_i, maxI, and_true, true_and] at hl
  rw [Try.ntmps70]
  refine ex_start ?_
  simp (config := {decide := true, maxSteps := 1000000}) only [NoH, nilQ, nilA, RechL, ReY, isNew, stepO, XPost, postN, XOk, updN, updU, isEff, avalue, aeff, ASt.eval, ASt.put, ASt.set, ASt.new, Nat.reduceDiv, Nat.reduceAdd, Int.reduceToNat, absV, absC, scalar, alen, acap, conc, flats, live, blkOf, aload, rd, part?, afieldAddr, afield, aindexAddr, cellsOf, afill, places, abuild, optI, asliceV, asliceS, szOk, srcCells, aappend, astore, amakeSlice, abuildSlice, snapL, mapO, treeL, AVal.tree, AVal.flatT, isFlat, ares, isFz, afroz, afrozB, lookupA, lookupH, tops, if_true, if_false, reduceCtorEq, forall_const, ite_true, ite_false, implies_true, walkS, tabS, Try.results70, hcs, hm]
  refine ex_loop (fun p : {p : Nat × Nat × Nat × (Nat → Nat) // p.1 ≤ n} => mk [(0, .i n), (1, .clo f cs), (5, .own 28 p.1.2.1 0 (parK q n p.1.1).length), (8, .i n), (9, .i p.1.1)] ((28, ⟨p.1.2.1, 1, famC 28 p.1.2.2.2 (parK q n p.1.1)⟩) :: famH 28 p.1.2.2.2 (parK q n p.1.1)) p.1.2.2.1 31) (fun p => n - p.1.1) ⟨(0, 1, 2, fun _ => 0), by simp⟩ ?_ ?_
  · refine weak_mk rfl (by first | exact Nat.le_refl _ | (simp only [mk_gen]; omega)) ?_ ?_ <;> simp (config := {decide := true}) only [w_lookup_nil, w_lookup_cons, ch_ch, ch_lit, lit_ch, wkT, wkH, wkB, WVL, WV_refl', Int.natCast_zero, Int.natCast_add, Int.natCast_one, Nat.sub_self, Nat.sub_zero, List.replicate_zero, List.take_zero, List.nil_append, List.append_nil, fillC_zero, Nat.reduceDiv, Nat.reduceAdd, upd_bk, bk_at, getB_zero, getB_succ, modB_zero, modB_succ, rows_lit, repB_zero, repB_succ, List.length_cons, List.length_nil, upd_upd_same, upd_apply, mk_tmp, mk_heap, mk_gen, lookupA, lookupH, List.getD_cons_zero, List.getD_cons_succ, init_two, tops, Bool.true_and, and_self, and_true, true_and, true_or, if_true, if_false, ite_true, ite_false, reduceCtorEq, reduceIte, parK, famC_nil, famH_nil, List.length_nil]
    exact WV_nl rfl rfl rfl rfl
  · rintro ⟨⟨i, g, G, gs⟩, hi⟩
    have hi' : i ≤ n := hi
    by_cases ilt : i < n
    · have hw : IntKind.i64.wrap ((i : Int) + 1) = ((i + 1 : Nat) : Int) := wrap64 (by omega) (by omega)
      simp (config := {decide := true, maxSteps := 1000000}) only [NoH, nilQ, nilA, RechL, ReY, isNew, stepO, XPost, postN, XOk, updN, updU, isEff, avalue, aeff, ASt.eval, ASt.put, ASt.set, ASt.new, Nat.reduceDiv, Nat.reduceAdd, Int.reduceToNat, absV, absC, scalar, alen, acap, conc, flats, live, blkOf, aload, rd, part?, afieldAddr, afield, aindexAddr, cellsOf, afill, places, abuild, optI, asliceV, asliceS, szOk, srcCells, aappend, astore, amakeSlice, abuildSlice, snapL, mapO, treeL, AVal.tree, AVal.flatT, isFlat, ares, isFz, afroz, afrozB, lookupA, lookupH, tops, if_true, if_false, reduceCtorEq, forall_const, ite_true, ite_false, implies_true, walkS, tabS, Try.results70, hw, ilt]
      refine ex_loop (fun r : {r : Nat × Nat × Nat × (Nat → Nat) // i < r.1 ∧ r.1 ≤ n} => mkG (ghs [(26, ch 28 (parJ q n i r.1.1).length)] [27]) [(0, .i n), (1, .clo f cs), (5, .own 28 r.1.2.1 0 (parJ q n i r.1.1).length), (6, .i i), (7, .i r.1.1), (8, .i n), (9, .i i)] ((28, ⟨r.1.2.1, 1, famC 28 r.1.2.2.2 (parJ q n i r.1.1)⟩) :: famH 28 r.1.2.2.2 (parJ q n i r.1.1)) r.1.2.2.1 31) (fun r => n - r.1.1) ⟨(i + 1, g, G, gs), by simp, ilt⟩ ?_ ?_
      · refine weak_mk rfl (by first | exact Nat.le_refl _ | (simp only [mk_gen]; omega)) ?_ ?_ <;> simp (config := {decide := true}) only [w_lookup_nil, w_lookup_cons, ch_ch, ch_lit, lit_ch, wkT, wkH, wkB, WVL, WV_refl', Int.natCast_zero, Int.natCast_add, Int.natCast_one, Nat.sub_self, Nat.sub_zero, List.replicate_zero, List.take_zero, List.nil_append, List.append_nil, fillC_zero, Nat.reduceDiv, Nat.reduceAdd, upd_bk, bk_at, getB_zero, getB_succ, modB_zero, modB_succ, rows_lit, repB_zero, repB_succ, List.length_cons, List.length_nil, upd_upd_same, upd_apply, mk_tmp, mk_heap, mk_gen, lookupA, lookupH, List.getD_cons_zero, List.getD_cons_succ, init_two, tops, Bool.true_and, and_self, and_true, true_and, true_or, if_true, if_false, ite_true, ite_false, reduceCtorEq, reduceIte, parJ_first]
        refine fam_all fun j hj => ?_
        simp (config := {decide := true, maxSteps := 1000000}) only [NoH, nilQ, nilA, RechL, ReY, isNew, stepO, XPost, postN, XOk, updN, updU, isEff, avalue, aeff, ASt.eval, ASt.put, ASt.set, ASt.new, Nat.reduceDiv, Nat.reduceAdd, Int.reduceToNat, absV, absC, scalar, alen, acap, conc, flats, live, blkOf, aload, rd, part?, afieldAddr, afield, aindexAddr, cellsOf, afill, places, abuild, optI, asliceV, asliceS, szOk, srcCells, aappend, astore, amakeSlice, abuildSlice, snapL, mapO, treeL, AVal.tree, AVal.flatT, isFlat, ares, isFz, afroz, afrozB, lookupA, lookupH, tops, if_true, if_false, reduceCtorEq, forall_const, ite_true, ite_false, implies_true, walkS, tabS, Try.results70, famH_at hj]
      · rintro ⟨⟨k, g', G', gs'⟩, hik, hk⟩
        have hik' : i < k := hik
        have hk' : k ≤ n := hk
        have hle : (parJ q n i k).length ≤ 24 * i + 24 := by
          have h1 := parK_le q n hn i
          have h2 := parRow_le q i k
          rw [parJ, List.length_append]
          omega
        by_cases klt : k < n
        · have hw' : IntKind.i64.wrap ((k : Int) + 1) = ((k + 1 : Nat) : Int) := wrap64 (by omega) (by omega)
          have h8 : ((parJ q n i k).length + 1) * 24 ≤ 140737488355328 := by omega
          have hm2 : n - (k + 1) < n - k := by omega
          simp (config := {decide := true, maxSteps := 1000000}) only [NoH, nilQ, nilA, RechL, ReY, isNew, stepO, XPost, postN, XOk, updN, updU, isEff, avalue, aeff, ASt.eval, ASt.put, ASt.set, ASt.new, Nat.reduceDiv, Nat.reduceAdd, Int.reduceToNat, absV, absC, scalar, alen, acap, conc, flats, live, blkOf, aload, rd, part?, afieldAddr, afield, aindexAddr, cellsOf, afill, places, abuild, optI, asliceV, asliceS, szOk, srcCells, aappend, astore, amakeSlice, abuildSlice, snapL, mapO, treeL, AVal.tree, AVal.flatT, isFlat, ares, isFz, afroz, afrozB, lookupA, lookupH, tops, if_true, if_false, reduceCtorEq, forall_const, ite_true, ite_false, implies_true, walkS, tabS, Try.results70, hw', klt, hcs, hs, List.cons_append]
          refine callK (hp i k ilt klt) (by first | exact .inl rfl | exact .inr rfl) ?_
          by_cases hq : q i k
          · have ej := parJ_yes (n := n) hik' hq
            generalize hJ : parJ q n i k = J at hle h8 ej
            simp (config := {decide := true, maxSteps := 1000000}) only [NoH, nilQ, nilA, RechL, ReY, isNew, stepO, XPost, postN, XOk, updN, updU, isEff, avalue, aeff, ASt.eval, ASt.put, ASt.set, ASt.new, Nat.reduceDiv, Nat.reduceAdd, Int.reduceToNat, absV, absC, scalar, alen, acap, conc, flats, live, blkOf, aload, rd, part?, afieldAddr, afield, aindexAddr, cellsOf, afill, places, abuild, optI, asliceV, asliceS, szOk, srcCells, aappend, astore, amakeSlice, abuildSlice, snapL, mapO, treeL, AVal.tree, AVal.flatT, isFlat, ares, isFz, afroz, afrozB, lookupA, lookupH, tops, if_true, if_false, reduceCtorEq, forall_const, ite_true, ite_false, implies_true, walkS, tabS, Try.results70, hw', klt, h8, eq_true hq, List.replicate_succ, List.flatten_cons, List.flatten_nil, famS, famS2, famS3]
            refine ⟨⟨(k + 1, G' + 1, G' + 2, upd gs' J.length G'), by omega, klt⟩, ?_, hm2⟩
            have ec := famC_snoc (ν := 28) (gs := gs') (ls := J) [(i : Int), (k : Int)] G'
            have e2 : ([(i : Int), (k : Int)]).length = 2 := rfl
            rw [e2] at ec
            refine weak_mk rfl (by first | exact Nat.le_refl _ | (simp only [mk_gen]; omega)) ?_ ?_ <;> simp (config := {decide := true}) only [w_lookup_nil, w_lookup_cons, ch_ch, ch_lit, lit_ch, wkT, wkH, wkB, WVL, WV_refl', Int.natCast_zero, Int.natCast_add, Int.natCast_one, Nat.sub_self, Nat.sub_zero, List.replicate_zero, List.take_zero, List.nil_append, List.append_nil, fillC_zero, Nat.reduceDiv, Nat.reduceAdd, upd_bk, bk_at, getB_zero, getB_succ, modB_zero, modB_succ, rows_lit, repB_zero, repB_succ, List.length_cons, List.length_nil, upd_upd_same, upd_apply, mk_tmp, mk_heap, mk_gen, lookupA, lookupH, List.getD_cons_zero, List.getD_cons_succ, init_two, tops, Bool.true_and, and_self, and_true, true_and, true_or, if_true, if_false, ite_true, ite_false, reduceCtorEq, reduceIte, ej, ec, List.length_append, List.length_cons, List.length_nil, Nat.zero_add]
            refine fam_all fun j hj => ?_
            have hj2 : j < J.length + 1 := by simpa using hj
            by_cases ej2 : j = J.length
            · subst ej2
              have e4 : (J ++ [[(i : Int), (k : Int)]])[J.length] = [(i : Int), (k : Int)] := by simp
              have e5 : upd gs' J.length G' J.length = G' := by simp [upd]
              simp (config := {decide := true, maxSteps := 1000000}) only [NoH, nilQ, nilA, RechL, ReY, isNew, stepO, XPost, postN, XOk, updN, updU, isEff, avalue, aeff, ASt.eval, ASt.put, ASt.set, ASt.new, Nat.reduceDiv, Nat.reduceAdd, Int.reduceToNat, absV, absC, scalar, alen, acap, conc, flats, live, blkOf, aload, rd, part?, afieldAddr, afield, aindexAddr, cellsOf, afill, places, abuild, optI, asliceV, asliceS, szOk, srcCells, aappend, astore, amakeSlice, abuildSlice, snapL, mapO, treeL, AVal.tree, AVal.flatT, isFlat, ares, isFz, afroz, afrozB, lookupA, lookupH, tops, if_true, if_false, reduceCtorEq, forall_const, ite_true, ite_false, implies_true, walkS, tabS, Try.results70, e4, e5]
              rfl
            · have hj3 : j < J.length := by omega
              have e4 : (J ++ [[(i : Int), (k : Int)]])[j] = J[j] := by rw [List.getElem_append_left hj3]
              have e5 : upd gs' J.length G' j = gs' j := by simp [upd, ej2]
              simp (config := {decide := true, maxSteps := 1000000}) only [NoH, nilQ, nilA, RechL, ReY, isNew, stepO, XPost, postN, XOk, updN, updU, isEff, avalue, aeff, ASt.eval, ASt.put, ASt.set, ASt.new, Nat.reduceDiv, Nat.reduceAdd, Int.reduceToNat, absV, absC, scalar, alen, acap, conc, flats, live, blkOf, aload, rd, part?, afieldAddr, afield, aindexAddr, cellsOf, afill, places, abuild, optI, asliceV, asliceS, szOk, srcCells, aappend, astore, amakeSlice, abuildSlice, snapL, mapO, treeL, AVal.tree, AVal.flatT, isFlat, ares, isFz, afroz, afrozB, lookupA, lookupH, tops, if_true, if_false, reduceCtorEq, forall_const, ite_true, ite_false, implies_true, walkS, tabS, Try.results70, e4, e5, ej2, famH_at hj3]
          · simp (config := {decide := true, maxSteps := 1000000}) only [NoH, nilQ, nilA, RechL, ReY, isNew, stepO, XPost, postN, XOk, updN, updU, isEff, avalue, aeff, ASt.eval, ASt.put, ASt.set, ASt.new, Nat.reduceDiv, Nat.reduceAdd, Int.reduceToNat, absV, absC, scalar, alen, acap, conc, flats, live, blkOf, aload, rd, part?, afieldAddr, afield, aindexAddr, cellsOf, afill, places, abuild, optI, asliceV, asliceS, szOk, srcCells, aappend, astore, amakeSlice, abuildSlice, snapL, mapO, treeL, AVal.tree, AVal.flatT, isFlat, ares, isFz, afroz, afrozB, lookupA, lookupH, tops, if_true, if_false, reduceCtorEq, forall_const, ite_true, ite_false, implies_true, walkS, tabS, Try.results70, hw', eq_false hq]
            refine ⟨⟨(k + 1, g', G', gs'), by omega, klt⟩, ?_, hm2⟩
            refine weak_mk rfl (by first | exact Nat.le_refl _ | (simp only [mk_gen]; omega)) ?_ ?_ <;> simp (config := {decide := true}) only [w_lookup_nil, w_lookup_cons, ch_ch, ch_lit, lit_ch, wkT, wkH, wkB, WVL, WV_refl', Int.natCast_zero, Int.natCast_add, Int.natCast_one, Nat.sub_self, Nat.sub_zero, List.replicate_zero, List.take_zero, List.nil_append, List.append_nil, fillC_zero, Nat.reduceDiv, Nat.reduceAdd, upd_bk, bk_at, getB_zero, getB_succ, modB_zero, modB_succ, rows_lit, repB_zero, repB_succ, List.length_cons, List.length_nil, upd_upd_same, upd_apply, mk_tmp, mk_heap, mk_gen, lookupA, lookupH, List.getD_cons_zero, List.getD_cons_succ, init_two, tops, Bool.true_and, and_self, and_true, true_and, true_or, if_true, if_false, ite_true, ite_false, reduceCtorEq, reduceIte, parJ_no (n := n) hq]
            refine fam_all fun j hj => ?_
            simp (config := {decide := true, maxSteps := 1000000}) only [NoH, nilQ, nilA, RechL, ReY, isNew, stepO, XPost, postN, XOk, updN, updU, isEff, avalue, aeff, ASt.eval, ASt.put, ASt.set, ASt.new, Nat.reduceDiv, Nat.reduceAdd, Int.reduceToNat, absV, absC, scalar, alen, acap, conc, flats, live, blkOf, aload, rd, part?, afieldAddr, afield, aindexAddr, cellsOf, afill, places, abuild, optI, asliceV, asliceS, szOk, srcCells, aappend, astore, amakeSlice, abuildSlice, snapL, mapO, treeL, AVal.tree, AVal.flatT, isFlat, ares, isFz, afroz, afrozB, lookupA, lookupH, tops, if_true, if_false, reduceCtorEq, forall_const, ite_true, ite_false, implies_true, walkS, tabS, Try.results70, famH_at hj]
        · have e : k = n := by omega
          subst e
          simp (config := {decide := true, maxSteps := 1000000}) only [NoH, nilQ, nilA, RechL, ReY, isNew, stepO, XPost, postN, XOk, updN, updU, isEff, avalue, aeff, ASt.eval, ASt.put, ASt.set, ASt.new, Nat.reduceDiv, Nat.reduceAdd, Int.reduceToNat, absV, absC, scalar, alen, acap, conc, flats, live, blkOf, aload, rd, part?, afieldAddr, afield, aindexAddr, cellsOf, afill, places, abuild, optI, asliceV, asliceS, szOk, srcCells, aappend, astore, amakeSlice, abuildSlice, snapL, mapO, treeL, AVal.tree, AVal.flatT, isFlat, ares, isFz, afroz, afrozB, lookupA, lookupH, tops, if_true, if_false, reduceCtorEq, forall_const, ite_true, ite_false, implies_true, walkS, tabS, Try.results70, hw, klt]
          refine ⟨⟨(i + 1, g', G', gs'), ilt⟩, ?_, by show _ - (i + 1) < _ - i; omega⟩
          have ei : parK q k (i + 1) = parJ q k i k := rfl
          refine weak_mk rfl (by first | exact Nat.le_refl _ | (simp only [mk_gen]; omega)) ?_ ?_ <;> simp (config := {decide := true}) only [w_lookup_nil, w_lookup_cons, ch_ch, ch_lit, lit_ch, wkT, wkH, wkB, WVL, WV_refl', Int.natCast_zero, Int.natCast_add, Int.natCast_one, Nat.sub_self, Nat.sub_zero, List.replicate_zero, List.take_zero, List.nil_append, List.append_nil, fillC_zero, Nat.reduceDiv, Nat.reduceAdd, upd_bk, bk_at, getB_zero, getB_succ, modB_zero, modB_succ, rows_lit, repB_zero, repB_succ, List.length_cons, List.length_nil, upd_upd_same, upd_apply, mk_tmp, mk_heap, mk_gen, lookupA, lookupH, List.getD_cons_zero, List.getD_cons_succ, init_two, tops, Bool.true_and, and_self, and_true, true_and, true_or, if_true, if_false, ite_true, ite_false, reduceCtorEq, reduceIte, ei]
          refine fam_all fun j hj => ?_
          simp (config := {decide := true, maxSteps := 1000000}) only [NoH, nilQ, nilA, RechL, ReY, isNew, stepO, XPost, postN, XOk, updN, updU, isEff, avalue, aeff, ASt.eval, ASt.put, ASt.set, ASt.new, Nat.reduceDiv, Nat.reduceAdd, Int.reduceToNat, absV, absC, scalar, alen, acap, conc, flats, live, blkOf, aload, rd, part?, afieldAddr, afield, aindexAddr, cellsOf, afill, places, abuild, optI, asliceV, asliceS, szOk, srcCells, aappend, astore, amakeSlice, abuildSlice, snapL, mapO, treeL, AVal.tree, AVal.flatT, isFlat, ares, isFz, afroz, afrozB, lookupA, lookupH, tops, if_true, if_false, reduceCtorEq, forall_const, ite_true, ite_false, implies_true, walkS, tabS, Try.results70, famH_at hj]
    · have e : i = n := by omega
      subst e
      simp (config := {decide := true, maxSteps := 1000000}) only [NoH, nilQ, nilA, RechL, ReY, isNew, stepO, XPost, postN, XOk, updN, updU, isEff, avalue, aeff, ASt.eval, ASt.put, ASt.set, ASt.new, Nat.reduceDiv, Nat.reduceAdd, Int.reduceToNat, absV, absC, scalar, alen, acap, conc, flats, live, blkOf, aload, rd, part?, afieldAddr, afield, aindexAddr, cellsOf, afill, places, abuild, optI, asliceV, asliceS, szOk, srcCells, aappend, astore, amakeSlice, abuildSlice, snapL, mapO, treeL, AVal.tree, AVal.flatT, isFlat, ares, isFz, afroz, afrozB, lookupA, lookupH, tops, if_true, if_false, reduceCtorEq, forall_const, ite_true, ite_false, implies_true, walkS, tabS, Try.results70, ilt, hm, famS, famS2, famS3, len_mapC]
end Go.Proofs.Ytncbhafegccpmaa
