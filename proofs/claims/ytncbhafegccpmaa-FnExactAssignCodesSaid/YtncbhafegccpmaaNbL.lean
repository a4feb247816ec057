/-
  OWN WORK: items with a common neighbour; the reference's side.
-/
import Derived.Test.YtncbhafegccpmaaNbK
import Derived.Test.YtncbhafegccpmaaFamB
namespace Go.Proofs.Ytncbhafegccpmaa
open Go Go.Own Go.Proofs
set_option maxHeartbeats 4000000
set_option maxRecDepth 20000
set_option linter.unusedSimpArgs false
/-- different items, one neighbour of both -/
def secT (q : Int → Int → Prop) (n : Nat) (i k : Int) : Prop := k ≠ i ∧ ∃ j : Nat, j < n ∧ q i j ∧ q j k
noncomputable def matR (q : Int → Int → Prop) (n m : Nat) : List (List Bool) := (List.range m).map fun (i : Nat) => rowB (q i) n
theorem matR_length (q : Int → Int → Prop) (n m : Nat) : (matR q n m).length = m := by simp [matR]
theorem matR_all (q : Int → Int → Prop) (n : Nat) : matR q n n = matB q n := rfl
theorem matR_zero (q : Int → Int → Prop) (n : Nat) : matR q n 0 = [] := rfl
theorem matR_succ (q : Int → Int → Prop) (n m : Nat) : matR q n (m + 1) = matR q n m ++ [rowB (q m) n] := by simp [matR, List.range_succ]
theorem matR_get (q : Int → Int → Prop) (n m i : Nat) (h : i < m) : (matR q n m)[i]'(by rw [matR_length]; exact h) = rowB (q i) n := by simp [matR]
theorem matR_at {ν : Nat} {gs : Nat → Nat} {q : Int → Int → Prop} {n m i : Nat} (hi : i < m) : lookupH (famHf AVal.b ν gs (matR q n m)) (ch ν i) = some ⟨gs i, 1, mapC AVal.b (rowB (q i) n)⟩ := by
  rw [famH_at (show i < (matR q n m).length by rw [matR_length]; exact hi), matR_get q n m i hi]
/-- what a row holds in between -/
def rowT (q : Int → Int → Prop) (n i k j : Nat) (y : Int) : Prop := (y < k ∧ secT q n i y) ∨ (y = k ∧ y ≠ i ∧ ∃ x : Nat, x < j ∧ q i x ∧ q x y)
theorem rowT_zero {q : Int → Int → Prop} {n i k : Nat} (y : Int) : rowT q n i k 0 y ↔ (y < k ∧ secT q n i y) := by
  constructor
  · rintro (h | ⟨_, _, x, hx, _⟩)
    · exact h
    · omega
  · exact .inl
theorem rowT_yes {q : Int → Int → Prop} {n i k j : Nat} (hki : k ≠ i) (h1 : q i j) (h2 : q j k) (y : Int) : rowT q n i k (j + 1) y ↔ rowT q n i k j y ∨ y = k := by
  constructor
  · rintro (h | ⟨h, _⟩)
    · exact .inl (.inl h)
    · exact .inr h
  · rintro ((h | ⟨h, h3, x, hx, h4⟩) | h)
    · exact .inl h
    · exact .inr ⟨h, h3, x, by omega, h4⟩
    · exact .inr ⟨h, by omega, j, by omega, h1, h ▸ h2⟩
theorem rowT_no {q : Int → Int → Prop} {n i k j : Nat} (h1 : ¬ (q i j ∧ q j k)) (y : Int) : rowT q n i k (j + 1) y ↔ rowT q n i k j y := by
  constructor
  · rintro (h | ⟨h, h3, x, hx, h4⟩)
    · exact .inl h
    · subst h
      have : x ≠ j := fun e => by subst e; exact h1 h4
      exact .inr ⟨rfl, h3, x, by omega, h4⟩
  · rintro (h | ⟨h, h3, x, hx, h4⟩)
    · exact .inl h
    · exact .inr ⟨h, h3, x, by omega, h4⟩
theorem rowT_all {q : Int → Int → Prop} {n i k : Nat} (y : Int) : rowT q n i k n y ↔ (y < (k + 1 : Nat) ∧ secT q n i y) := by
  constructor
  · rintro (h | ⟨h, h3, x, hx, h4⟩)
    · exact ⟨by omega, h.2⟩
    · exact ⟨by omega, h3, x, hx, h4⟩
  · rintro ⟨h, h3, x, hx, h4⟩
    by_cases e : y = k
    · exact .inr ⟨e, h3, x, hx, h4⟩
    · exact .inl ⟨by omega, h3, x, hx, h4⟩
theorem rowT_self {q : Int → Int → Prop} {n i : Nat} (y : Int) : (y < (i : Nat) ∧ secT q n i y) ↔ (y < (i + 1 : Nat) ∧ secT q n i y) := by
  constructor
  · rintro ⟨h, h2⟩
    exact ⟨by omega, h2⟩
  · rintro ⟨h, h2⟩
    have := h2.1
    exact ⟨by omega, h2⟩
theorem denx_l23Second (q : Int → Int → Prop) (n : Nat) (hn : n ≤ 1000000) : DenX Try.prog 72 [.v (boolsV q n)] [.v (boolsV q n)] (.ol 1 (mapC xbools (matB (secT q n) n)) n) := by
  refine denx_of_awpG (ghs [(17, ch 8 0)] [56]) Try.func72 rfl (by kernel_rfl) (Nat.le_of_ble_eq_true rfl) (by simp (config := {decide := true}) only [w_embA_nil, w_embA_cons, w_emb_v, w_emb_ol, w_emb_op, w_emb_agg, w_emb_tup, w_embL_nil, w_embL_cons, embL_i, List.map_cons, List.map_nil, List.nil_append, List.append_nil, List.cons_append, List.nodup_cons, List.nodup_nil, List.mem_cons, List.mem_nil_iff, List.not_mem_nil, ch_ch, ch_lit, lit_ch, Nat.reduceAdd, tree_bools]) mixed (by kernel_rfl) fun hl => ?_
  simp only [xlensL, xlens, lensL, lens, lensL_i, lensL_mapC, xlensL_i, maxI, and_true, true_and] at hl
  rw [Try.ntmps72]
  refine ex_start ?_
  have hmt : treeL (mapC (lstC AVal.b) (matB q n)) = true := by
    have := tree_bools q n
    simpa only [AVal.tree] using this
  have h8 : (n : Int) * ((1 : Nat) : Int) ≤ 281474976710656 := by omega
  have h63 : (n : Int) ≤ 9223372036854775807 := by omega
  simp (config := {decide := true, maxSteps := 1000000}) only [NoH, nilQ, nilA, RechL, ReY, isNew, stepO, XPost, postN, XOk, updN, updU, isEff, avalue, aeff, ASt.eval, ASt.put, ASt.set, ASt.new, Nat.reduceDiv, Nat.reduceAdd, Int.reduceToNat, absV, absC, scalar, alen, acap, conc, flats, live, blkOf, aload, rd, part?, afieldAddr, afield, aindexAddr, cellsOf, afill, places, abuild, optI, asliceV, asliceS, szOk, srcCells, aappend, astore, amakeSlice, abuildSlice, snapL, mapO, treeL, AVal.tree, AVal.flatT, isFlat, ares, isFz, afroz, afrozB, lookupA, lookupH, tops, if_true, if_false, reduceCtorEq, forall_const, ite_true, ite_false, implies_true, walkS, tabS, Try.results72, hmt]
  refine ex_loop (fun p : {p : Nat × Nat × Nat × (Nat → Nat) // p.1 ≤ n} => mkG (ghs [(17, ch 8 p.1.1)] [56]) [(0, boolsV q n), (3, .own 8 p.1.2.1 0 p.1.1), (4, .i p.1.1)] ((8, ⟨p.1.2.1, 1, famC 8 p.1.2.2.2 (matR (secT q n) n p.1.1)⟩) :: famHf AVal.b 8 p.1.2.2.2 (matR (secT q n) n p.1.1)) p.1.2.2.1 59) (fun p => n - p.1.1) ⟨(0, 1, 2, fun _ => 0), by simp⟩ ?_ ?_
  · refine weak_mk rfl (by first | exact Nat.le_refl _ | (simp only [mk_gen]; omega)) ?_ ?_ <;> simp (config := {decide := true}) only [w_lookup_nil, w_lookup_cons, ch_ch, ch_lit, lit_ch, wkT, wkH, wkB, WVL, WV_refl', Int.natCast_zero, Int.natCast_add, Int.natCast_one, Nat.sub_self, Nat.sub_zero, List.replicate_zero, List.take_zero, List.nil_append, List.append_nil, fillC_zero, Nat.reduceDiv, Nat.reduceAdd, upd_bk, bk_at, getB_zero, getB_succ, modB_zero, modB_succ, rows_lit, repB_zero, repB_succ, List.length_cons, List.length_nil, upd_upd_same, upd_apply, mk_tmp, mk_heap, mk_gen, lookupA, lookupH, List.getD_cons_zero, List.getD_cons_succ, init_two, tops, Bool.true_and, and_self, and_true, true_and, true_or, if_true, if_false, ite_true, ite_false, reduceCtorEq, reduceIte, matR_zero, famC_nil, famH_nil, List.length_nil, hmt]
  · rintro ⟨⟨i, g, G, gs⟩, hi⟩
    have hi' : i ≤ n := hi
    by_cases ilt : i < n
    · have hw : IntKind.i64.wrap ((i : Int) + 1) = ((i + 1 : Nat) : Int) := wrap64 (by omega) (by omega)
      have h9 : (i + 1) * 24 ≤ 140737488355328 := by omega
      simp (config := {decide := true, maxSteps := 1000000}) only [NoH, nilQ, nilA, RechL, ReY, isNew, stepO, XPost, postN, XOk, updN, updU, isEff, avalue, aeff, ASt.eval, ASt.put, ASt.set, ASt.new, Nat.reduceDiv, Nat.reduceAdd, Int.reduceToNat, absV, absC, scalar, alen, acap, conc, flats, live, blkOf, aload, rd, part?, afieldAddr, afield, aindexAddr, cellsOf, afill, places, abuild, optI, asliceV, asliceS, szOk, srcCells, aappend, astore, amakeSlice, abuildSlice, snapL, mapO, treeL, AVal.tree, AVal.flatT, isFlat, ares, isFz, afroz, afrozB, lookupA, lookupH, tops, if_true, if_false, reduceCtorEq, forall_const, ite_true, ite_false, implies_true, walkS, tabS, Try.results72, hw, ilt, h8, h63, hmt]
      refine ex_loop (fun k : {k : Nat // k ≤ n} => mkG (ghs [(17, ch 8 i)] [56]) [(0, boolsV q n), (3, .own 8 g 0 i), (4, .i i), (5, .own (ch 8 i) G 0 n), (6, .i k)] ((8, ⟨g, 1, famC 8 gs (matR (secT q n) n i)⟩) :: (ch 8 i, ⟨G, 1, mapC AVal.b (rowB (rowT q n i k 0) n)⟩) :: famHf AVal.b 8 gs (matR (secT q n) n i)) (G + 1) 59) (fun k => n - k) ⟨0, by simp⟩ ?_ ?_
      · have e0 : List.replicate n false = rowB (rowT q n i 0 0) n := by
          apply List.ext_getElem
          · simp [rowB_length]
          · intro y h1 h2
            have hy : y < n := by simpa using h1
            rw [rowB_get _ _ _ hy]
            simp only [List.getElem_replicate]
            symm
            rw [bp_false, rowT_zero]
            omega
        refine weak_mk rfl (by first | exact Nat.le_refl _ | (simp only [mk_gen]; omega)) ?_ ?_ <;> simp (config := {decide := true}) only [w_lookup_nil, w_lookup_cons, ch_ch, ch_lit, lit_ch, wkT, wkH, wkB, WVL, WV_refl', Int.natCast_zero, Int.natCast_add, Int.natCast_one, Nat.sub_self, Nat.sub_zero, List.replicate_zero, List.take_zero, List.nil_append, List.append_nil, fillC_zero, Nat.reduceDiv, Nat.reduceAdd, upd_bk, bk_at, getB_zero, getB_succ, modB_zero, modB_succ, rows_lit, repB_zero, repB_succ, List.length_cons, List.length_nil, upd_upd_same, upd_apply, mk_tmp, mk_heap, mk_gen, lookupA, lookupH, List.getD_cons_zero, List.getD_cons_succ, init_two, tops, Bool.true_and, and_self, and_true, true_and, true_or, if_true, if_false, ite_true, ite_false, reduceCtorEq, reduceIte, e0, rep_b]
        refine fam_allf fun j hj => ?_
        have hj2 : j < i := by rw [matR_length] at hj; exact hj
        have hne : ¬ j = i := by omega
        simp (config := {decide := true, maxSteps := 1000000}) only [NoH, nilQ, nilA, RechL, ReY, isNew, stepO, XPost, postN, XOk, updN, updU, isEff, avalue, aeff, ASt.eval, ASt.put, ASt.set, ASt.new, Nat.reduceDiv, Nat.reduceAdd, Int.reduceToNat, absV, absC, scalar, alen, acap, conc, flats, live, blkOf, aload, rd, part?, afieldAddr, afield, aindexAddr, cellsOf, afill, places, abuild, optI, asliceV, asliceS, szOk, srcCells, aappend, astore, amakeSlice, abuildSlice, snapL, mapO, treeL, AVal.tree, AVal.flatT, isFlat, ares, isFz, afroz, afrozB, lookupA, lookupH, tops, if_true, if_false, reduceCtorEq, forall_const, ite_true, ite_false, implies_true, walkS, tabS, Try.results72, hne, famH_at (f := AVal.b) (ν := 8) (gs := gs) hj]
      · rintro ⟨k, hk⟩
        have hk' : k ≤ n := hk
        by_cases klt : k < n
        · have hwk : IntKind.i64.wrap ((k : Int) + 1) = ((k + 1 : Nat) : Int) := wrap64 (by omega) (by omega)
          simp (config := {decide := true, maxSteps := 1000000}) only [NoH, nilQ, nilA, RechL, ReY, isNew, stepO, XPost, postN, XOk, updN, updU, isEff, avalue, aeff, ASt.eval, ASt.put, ASt.set, ASt.new, Nat.reduceDiv, Nat.reduceAdd, Int.reduceToNat, absV, absC, scalar, alen, acap, conc, flats, live, blkOf, aload, rd, part?, afieldAddr, afield, aindexAddr, cellsOf, afill, places, abuild, optI, asliceV, asliceS, szOk, srcCells, aappend, astore, amakeSlice, abuildSlice, snapL, mapO, treeL, AVal.tree, AVal.flatT, isFlat, ares, isFz, afroz, afrozB, lookupA, lookupH, tops, if_true, if_false, reduceCtorEq, forall_const, ite_true, ite_false, implies_true, walkS, tabS, Try.results72, hwk, ilt, klt, hmt]
          refine ex_loop (fun j : {j : Nat // j ≤ n} => mkG (ghs [(17, ch 8 i)] [56]) [(0, boolsV q n), (3, .own 8 g 0 i), (4, .i i), (5, .own (ch 8 i) G 0 n), (6, .i k), (7, .i j)] ((8, ⟨g, 1, famC 8 gs (matR (secT q n) n i)⟩) :: (ch 8 i, ⟨G, 1, mapC AVal.b (rowB (rowT q n i k j) n)⟩) :: famHf AVal.b 8 gs (matR (secT q n) n i)) (G + 1) 59) (fun j => n - j) ⟨0, by simp⟩ ?_ ?_
          · refine weak_mk rfl (by first | exact Nat.le_refl _ | (simp only [mk_gen]; omega)) ?_ ?_ <;> simp (config := {decide := true}) only [w_lookup_nil, w_lookup_cons, ch_ch, ch_lit, lit_ch, wkT, wkH, wkB, WVL, WV_refl', Int.natCast_zero, Int.natCast_add, Int.natCast_one, Nat.sub_self, Nat.sub_zero, List.replicate_zero, List.take_zero, List.nil_append, List.append_nil, fillC_zero, Nat.reduceDiv, Nat.reduceAdd, upd_bk, bk_at, getB_zero, getB_succ, modB_zero, modB_succ, rows_lit, repB_zero, repB_succ, List.length_cons, List.length_nil, upd_upd_same, upd_apply, mk_tmp, mk_heap, mk_gen, lookupA, lookupH, List.getD_cons_zero, List.getD_cons_succ, init_two, tops, Bool.true_and, and_self, and_true, true_and, true_or, if_true, if_false, ite_true, ite_false, reduceCtorEq, reduceIte]
            refine fam_allf fun j hj => ?_
            have hj2 : j < i := by rw [matR_length] at hj; exact hj
            have hne : ¬ j = i := by omega
            simp (config := {decide := true, maxSteps := 1000000}) only [NoH, nilQ, nilA, RechL, ReY, isNew, stepO, XPost, postN, XOk, updN, updU, isEff, avalue, aeff, ASt.eval, ASt.put, ASt.set, ASt.new, Nat.reduceDiv, Nat.reduceAdd, Int.reduceToNat, absV, absC, scalar, alen, acap, conc, flats, live, blkOf, aload, rd, part?, afieldAddr, afield, aindexAddr, cellsOf, afill, places, abuild, optI, asliceV, asliceS, szOk, srcCells, aappend, astore, amakeSlice, abuildSlice, snapL, mapO, treeL, AVal.tree, AVal.flatT, isFlat, ares, isFz, afroz, afrozB, lookupA, lookupH, tops, if_true, if_false, reduceCtorEq, forall_const, ite_true, ite_false, implies_true, walkS, tabS, Try.results72, hne, famH_at (f := AVal.b) (ν := 8) (gs := gs) hj]
          · rintro ⟨j, hj⟩
            have hj' : j ≤ n := hj
            by_cases hki : k = i
            · subst hki
              have er : rowB (rowT q n k (k + 1) 0) n = rowB (rowT q n k k j) n := rowB_congr fun y _ => by
                rw [rowT_zero, ← rowT_self]
                constructor
                · exact .inl
                · rintro (h | ⟨h, h2, _⟩)
                  · exact h
                  · omega
              by_cases jlt : j < n
              · simp (config := {decide := true, maxSteps := 1000000}) only [NoH, nilQ, nilA, RechL, ReY, isNew, stepO, XPost, postN, XOk, updN, updU, isEff, avalue, aeff, ASt.eval, ASt.put, ASt.set, ASt.new, Nat.reduceDiv, Nat.reduceAdd, Int.reduceToNat, absV, absC, scalar, alen, acap, conc, flats, live, blkOf, aload, rd, part?, afieldAddr, afield, aindexAddr, cellsOf, afill, places, abuild, optI, asliceV, asliceS, szOk, srcCells, aappend, astore, amakeSlice, abuildSlice, snapL, mapO, treeL, AVal.tree, AVal.flatT, isFlat, ares, isFz, afroz, afrozB, lookupA, lookupH, tops, if_true, if_false, reduceCtorEq, forall_const, ite_true, ite_false, implies_true, walkS, tabS, Try.results72, hwk, ilt, klt, jlt, hmt]
                refine ⟨⟨k + 1, klt⟩, ?_, by show _ - (k + 1) < _ - k; omega⟩
                refine weak_mk rfl (by first | exact Nat.le_refl _ | (simp only [mk_gen]; omega)) ?_ ?_ <;> simp (config := {decide := true}) only [w_lookup_nil, w_lookup_cons, ch_ch, ch_lit, lit_ch, wkT, wkH, wkB, WVL, WV_refl', Int.natCast_zero, Int.natCast_add, Int.natCast_one, Nat.sub_self, Nat.sub_zero, List.replicate_zero, List.take_zero, List.nil_append, List.append_nil, fillC_zero, Nat.reduceDiv, Nat.reduceAdd, upd_bk, bk_at, getB_zero, getB_succ, modB_zero, modB_succ, rows_lit, repB_zero, repB_succ, List.length_cons, List.length_nil, upd_upd_same, upd_apply, mk_tmp, mk_heap, mk_gen, lookupA, lookupH, List.getD_cons_zero, List.getD_cons_succ, init_two, tops, Bool.true_and, and_self, and_true, true_and, true_or, if_true, if_false, ite_true, ite_false, reduceCtorEq, reduceIte, er]
                refine fam_allf fun x hx => ?_
                have hx2 : x < k := by rw [matR_length] at hx; exact hx
                have hne : ¬ x = k := by omega
                simp (config := {decide := true, maxSteps := 1000000}) only [NoH, nilQ, nilA, RechL, ReY, isNew, stepO, XPost, postN, XOk, updN, updU, isEff, avalue, aeff, ASt.eval, ASt.put, ASt.set, ASt.new, Nat.reduceDiv, Nat.reduceAdd, Int.reduceToNat, absV, absC, scalar, alen, acap, conc, flats, live, blkOf, aload, rd, part?, afieldAddr, afield, aindexAddr, cellsOf, afill, places, abuild, optI, asliceV, asliceS, szOk, srcCells, aappend, astore, amakeSlice, abuildSlice, snapL, mapO, treeL, AVal.tree, AVal.flatT, isFlat, ares, isFz, afroz, afrozB, lookupA, lookupH, tops, if_true, if_false, reduceCtorEq, forall_const, ite_true, ite_false, implies_true, walkS, tabS, Try.results72, hne, famH_at (f := AVal.b) (ν := 8) (gs := gs) hx]
              · simp (config := {decide := true, maxSteps := 1000000}) only [NoH, nilQ, nilA, RechL, ReY, isNew, stepO, XPost, postN, XOk, updN, updU, isEff, avalue, aeff, ASt.eval, ASt.put, ASt.set, ASt.new, Nat.reduceDiv, Nat.reduceAdd, Int.reduceToNat, absV, absC, scalar, alen, acap, conc, flats, live, blkOf, aload, rd, part?, afieldAddr, afield, aindexAddr, cellsOf, afill, places, abuild, optI, asliceV, asliceS, szOk, srcCells, aappend, astore, amakeSlice, abuildSlice, snapL, mapO, treeL, AVal.tree, AVal.flatT, isFlat, ares, isFz, afroz, afrozB, lookupA, lookupH, tops, if_true, if_false, reduceCtorEq, forall_const, ite_true, ite_false, implies_true, walkS, tabS, Try.results72, hwk, ilt, klt, jlt, hmt]
                refine ⟨⟨k + 1, klt⟩, ?_, by show _ - (k + 1) < _ - k; omega⟩
                refine weak_mk rfl (by first | exact Nat.le_refl _ | (simp only [mk_gen]; omega)) ?_ ?_ <;> simp (config := {decide := true}) only [w_lookup_nil, w_lookup_cons, ch_ch, ch_lit, lit_ch, wkT, wkH, wkB, WVL, WV_refl', Int.natCast_zero, Int.natCast_add, Int.natCast_one, Nat.sub_self, Nat.sub_zero, List.replicate_zero, List.take_zero, List.nil_append, List.append_nil, fillC_zero, Nat.reduceDiv, Nat.reduceAdd, upd_bk, bk_at, getB_zero, getB_succ, modB_zero, modB_succ, rows_lit, repB_zero, repB_succ, List.length_cons, List.length_nil, upd_upd_same, upd_apply, mk_tmp, mk_heap, mk_gen, lookupA, lookupH, List.getD_cons_zero, List.getD_cons_succ, init_two, tops, Bool.true_and, and_self, and_true, true_and, true_or, if_true, if_false, ite_true, ite_false, reduceCtorEq, reduceIte, er]
                refine fam_allf fun x hx => ?_
                have hx2 : x < k := by rw [matR_length] at hx; exact hx
                have hne : ¬ x = k := by omega
                simp (config := {decide := true, maxSteps := 1000000}) only [NoH, nilQ, nilA, RechL, ReY, isNew, stepO, XPost, postN, XOk, updN, updU, isEff, avalue, aeff, ASt.eval, ASt.put, ASt.set, ASt.new, Nat.reduceDiv, Nat.reduceAdd, Int.reduceToNat, absV, absC, scalar, alen, acap, conc, flats, live, blkOf, aload, rd, part?, afieldAddr, afield, aindexAddr, cellsOf, afill, places, abuild, optI, asliceV, asliceS, szOk, srcCells, aappend, astore, amakeSlice, abuildSlice, snapL, mapO, treeL, AVal.tree, AVal.flatT, isFlat, ares, isFz, afroz, afrozB, lookupA, lookupH, tops, if_true, if_false, reduceCtorEq, forall_const, ite_true, ite_false, implies_true, walkS, tabS, Try.results72, hne, famH_at (f := AVal.b) (ν := 8) (gs := gs) hx]
            · by_cases jlt : j < n
              · have hwj : IntKind.i64.wrap ((j : Int) + 1) = ((j + 1 : Nat) : Int) := wrap64 (by omega) (by omega)
                have hmm : n - (j + 1) < n - j := by omega
                have r1 : i < (matB q n).length := by rw [matB_length]; exact ilt
                have r2 : j < (rowB (q i) n).length := by rw [rowB_length]; exact jlt
                have r3 : j < (matB q n).length := by rw [matB_length]; exact jlt
                have r4 : k < (rowB (q j) n).length := by rw [rowB_length]; exact klt
                have v1 := matB_get q n i ilt
                have v2 := rowB_get (q i) n j jlt
                have v3 := matB_get q n j jlt
                have v4 := rowB_get (q j) n k klt
                by_cases h1 : q i j
                · by_cases h2 : q j k
                  · have er : rowB (fun y => rowT q n i k j y ∨ y = (k : Int)) n = rowB (rowT q n i k (j + 1)) n := rowB_congr fun y _ => (rowT_yes hki h1 h2 y).symm
                    simp (config := {decide := true, maxSteps := 1000000}) only [NoH, nilQ, nilA, RechL, ReY, isNew, stepO, XPost, postN, XOk, updN, updU, isEff, avalue, aeff, ASt.eval, ASt.put, ASt.set, ASt.new, Nat.reduceDiv, Nat.reduceAdd, Int.reduceToNat, absV, absC, scalar, alen, acap, conc, flats, live, blkOf, aload, rd, part?, afieldAddr, afield, aindexAddr, cellsOf, afill, places, abuild, optI, asliceV, asliceS, szOk, srcCells, aappend, astore, amakeSlice, abuildSlice, snapL, mapO, treeL, AVal.tree, AVal.flatT, isFlat, ares, isFz, afroz, afrozB, lookupA, lookupH, tops, if_true, if_false, reduceCtorEq, forall_const, ite_true, ite_false, implies_true, walkS, tabS, Try.results72, hwj, hki, ilt, klt, jlt, hmt, matB_length, rowB_length, r1, r2, r3, r4, v1, v2, v3, v4, eq_true h1, eq_true h2, rowB_set, mapC_set]
                    refine ⟨⟨j + 1, jlt⟩, ?_, hmm⟩
                    refine weak_mk rfl (by first | exact Nat.le_refl _ | (simp only [mk_gen]; omega)) ?_ ?_ <;> simp (config := {decide := true}) only [w_lookup_nil, w_lookup_cons, ch_ch, ch_lit, lit_ch, wkT, wkH, wkB, WVL, WV_refl', Int.natCast_zero, Int.natCast_add, Int.natCast_one, Nat.sub_self, Nat.sub_zero, List.replicate_zero, List.take_zero, List.nil_append, List.append_nil, fillC_zero, Nat.reduceDiv, Nat.reduceAdd, upd_bk, bk_at, getB_zero, getB_succ, modB_zero, modB_succ, rows_lit, repB_zero, repB_succ, List.length_cons, List.length_nil, upd_upd_same, upd_apply, mk_tmp, mk_heap, mk_gen, lookupA, lookupH, List.getD_cons_zero, List.getD_cons_succ, init_two, tops, Bool.true_and, and_self, and_true, true_and, true_or, if_true, if_false, ite_true, ite_false, reduceCtorEq, reduceIte, er]
                    refine fam_allf fun x hx => ?_
                    have hx2 : x < i := by rw [matR_length] at hx; exact hx
                    have hne : ¬ x = i := by omega
                    simp (config := {decide := true, maxSteps := 1000000}) only [NoH, nilQ, nilA, RechL, ReY, isNew, stepO, XPost, postN, XOk, updN, updU, isEff, avalue, aeff, ASt.eval, ASt.put, ASt.set, ASt.new, Nat.reduceDiv, Nat.reduceAdd, Int.reduceToNat, absV, absC, scalar, alen, acap, conc, flats, live, blkOf, aload, rd, part?, afieldAddr, afield, aindexAddr, cellsOf, afill, places, abuild, optI, asliceV, asliceS, szOk, srcCells, aappend, astore, amakeSlice, abuildSlice, snapL, mapO, treeL, AVal.tree, AVal.flatT, isFlat, ares, isFz, afroz, afrozB, lookupA, lookupH, tops, if_true, if_false, reduceCtorEq, forall_const, ite_true, ite_false, implies_true, walkS, tabS, Try.results72, hne, famH_at (f := AVal.b) (ν := 8) (gs := gs) hx]
                  · have er : rowB (rowT q n i k (j + 1)) n = rowB (rowT q n i k j) n := rowB_congr fun y _ => rowT_no (fun h => h2 h.2) y
                    simp (config := {decide := true, maxSteps := 1000000}) only [NoH, nilQ, nilA, RechL, ReY, isNew, stepO, XPost, postN, XOk, updN, updU, isEff, avalue, aeff, ASt.eval, ASt.put, ASt.set, ASt.new, Nat.reduceDiv, Nat.reduceAdd, Int.reduceToNat, absV, absC, scalar, alen, acap, conc, flats, live, blkOf, aload, rd, part?, afieldAddr, afield, aindexAddr, cellsOf, afill, places, abuild, optI, asliceV, asliceS, szOk, srcCells, aappend, astore, amakeSlice, abuildSlice, snapL, mapO, treeL, AVal.tree, AVal.flatT, isFlat, ares, isFz, afroz, afrozB, lookupA, lookupH, tops, if_true, if_false, reduceCtorEq, forall_const, ite_true, ite_false, implies_true, walkS, tabS, Try.results72, hwj, hki, ilt, klt, jlt, hmt, matB_length, rowB_length, r1, r2, r3, r4, v1, v2, v3, v4, eq_true h1, eq_false h2]
                    refine ⟨⟨j + 1, jlt⟩, ?_, hmm⟩
                    refine weak_mk rfl (by first | exact Nat.le_refl _ | (simp only [mk_gen]; omega)) ?_ ?_ <;> simp (config := {decide := true}) only [w_lookup_nil, w_lookup_cons, ch_ch, ch_lit, lit_ch, wkT, wkH, wkB, WVL, WV_refl', Int.natCast_zero, Int.natCast_add, Int.natCast_one, Nat.sub_self, Nat.sub_zero, List.replicate_zero, List.take_zero, List.nil_append, List.append_nil, fillC_zero, Nat.reduceDiv, Nat.reduceAdd, upd_bk, bk_at, getB_zero, getB_succ, modB_zero, modB_succ, rows_lit, repB_zero, repB_succ, List.length_cons, List.length_nil, upd_upd_same, upd_apply, mk_tmp, mk_heap, mk_gen, lookupA, lookupH, List.getD_cons_zero, List.getD_cons_succ, init_two, tops, Bool.true_and, and_self, and_true, true_and, true_or, if_true, if_false, ite_true, ite_false, reduceCtorEq, reduceIte, er]
                    refine fam_allf fun x hx => ?_
                    have hx2 : x < i := by rw [matR_length] at hx; exact hx
                    have hne : ¬ x = i := by omega
                    simp (config := {decide := true, maxSteps := 1000000}) only [NoH, nilQ, nilA, RechL, ReY, isNew, stepO, XPost, postN, XOk, updN, updU, isEff, avalue, aeff, ASt.eval, ASt.put, ASt.set, ASt.new, Nat.reduceDiv, Nat.reduceAdd, Int.reduceToNat, absV, absC, scalar, alen, acap, conc, flats, live, blkOf, aload, rd, part?, afieldAddr, afield, aindexAddr, cellsOf, afill, places, abuild, optI, asliceV, asliceS, szOk, srcCells, aappend, astore, amakeSlice, abuildSlice, snapL, mapO, treeL, AVal.tree, AVal.flatT, isFlat, ares, isFz, afroz, afrozB, lookupA, lookupH, tops, if_true, if_false, reduceCtorEq, forall_const, ite_true, ite_false, implies_true, walkS, tabS, Try.results72, hne, famH_at (f := AVal.b) (ν := 8) (gs := gs) hx]
                · have er : rowB (rowT q n i k (j + 1)) n = rowB (rowT q n i k j) n := rowB_congr fun y _ => rowT_no (fun h => h1 h.1) y
                  simp (config := {decide := true, maxSteps := 1000000}) only [NoH, nilQ, nilA, RechL, ReY, isNew, stepO, XPost, postN, XOk, updN, updU, isEff, avalue, aeff, ASt.eval, ASt.put, ASt.set, ASt.new, Nat.reduceDiv, Nat.reduceAdd, Int.reduceToNat, absV, absC, scalar, alen, acap, conc, flats, live, blkOf, aload, rd, part?, afieldAddr, afield, aindexAddr, cellsOf, afill, places, abuild, optI, asliceV, asliceS, szOk, srcCells, aappend, astore, amakeSlice, abuildSlice, snapL, mapO, treeL, AVal.tree, AVal.flatT, isFlat, ares, isFz, afroz, afrozB, lookupA, lookupH, tops, if_true, if_false, reduceCtorEq, forall_const, ite_true, ite_false, implies_true, walkS, tabS, Try.results72, hwj, hki, ilt, klt, jlt, hmt, matB_length, rowB_length, r1, r2, r3, r4, v1, v2, v3, v4, eq_false h1]
                  refine ⟨⟨j + 1, jlt⟩, ?_, hmm⟩
                  refine weak_mk rfl (by first | exact Nat.le_refl _ | (simp only [mk_gen]; omega)) ?_ ?_ <;> simp (config := {decide := true}) only [w_lookup_nil, w_lookup_cons, ch_ch, ch_lit, lit_ch, wkT, wkH, wkB, WVL, WV_refl', Int.natCast_zero, Int.natCast_add, Int.natCast_one, Nat.sub_self, Nat.sub_zero, List.replicate_zero, List.take_zero, List.nil_append, List.append_nil, fillC_zero, Nat.reduceDiv, Nat.reduceAdd, upd_bk, bk_at, getB_zero, getB_succ, modB_zero, modB_succ, rows_lit, repB_zero, repB_succ, List.length_cons, List.length_nil, upd_upd_same, upd_apply, mk_tmp, mk_heap, mk_gen, lookupA, lookupH, List.getD_cons_zero, List.getD_cons_succ, init_two, tops, Bool.true_and, and_self, and_true, true_and, true_or, if_true, if_false, ite_true, ite_false, reduceCtorEq, reduceIte, er]
                  refine fam_allf fun x hx => ?_
                  have hx2 : x < i := by rw [matR_length] at hx; exact hx
                  have hne : ¬ x = i := by omega
                  simp (config := {decide := true, maxSteps := 1000000}) only [NoH, nilQ, nilA, RechL, ReY, isNew, stepO, XPost, postN, XOk, updN, updU, isEff, avalue, aeff, ASt.eval, ASt.put, ASt.set, ASt.new, Nat.reduceDiv, Nat.reduceAdd, Int.reduceToNat, absV, absC, scalar, alen, acap, conc, flats, live, blkOf, aload, rd, part?, afieldAddr, afield, aindexAddr, cellsOf, afill, places, abuild, optI, asliceV, asliceS, szOk, srcCells, aappend, astore, amakeSlice, abuildSlice, snapL, mapO, treeL, AVal.tree, AVal.flatT, isFlat, ares, isFz, afroz, afrozB, lookupA, lookupH, tops, if_true, if_false, reduceCtorEq, forall_const, ite_true, ite_false, implies_true, walkS, tabS, Try.results72, hne, famH_at (f := AVal.b) (ν := 8) (gs := gs) hx]
              · have e : j = n := by omega
                subst e
                have er : rowB (rowT q j i (k + 1) 0) j = rowB (rowT q j i k j) j := rowB_congr fun y _ => by rw [rowT_zero, rowT_all]
                simp (config := {decide := true, maxSteps := 1000000}) only [NoH, nilQ, nilA, RechL, ReY, isNew, stepO, XPost, postN, XOk, updN, updU, isEff, avalue, aeff, ASt.eval, ASt.put, ASt.set, ASt.new, Nat.reduceDiv, Nat.reduceAdd, Int.reduceToNat, absV, absC, scalar, alen, acap, conc, flats, live, blkOf, aload, rd, part?, afieldAddr, afield, aindexAddr, cellsOf, afill, places, abuild, optI, asliceV, asliceS, szOk, srcCells, aappend, astore, amakeSlice, abuildSlice, snapL, mapO, treeL, AVal.tree, AVal.flatT, isFlat, ares, isFz, afroz, afrozB, lookupA, lookupH, tops, if_true, if_false, reduceCtorEq, forall_const, ite_true, ite_false, implies_true, walkS, tabS, Try.results72, hwk, hki, ilt, klt, jlt, hmt]
                refine ⟨⟨k + 1, klt⟩, ?_, by show _ - (k + 1) < _ - k; omega⟩
                refine weak_mk rfl (by first | exact Nat.le_refl _ | (simp only [mk_gen]; omega)) ?_ ?_ <;> simp (config := {decide := true}) only [w_lookup_nil, w_lookup_cons, ch_ch, ch_lit, lit_ch, wkT, wkH, wkB, WVL, WV_refl', Int.natCast_zero, Int.natCast_add, Int.natCast_one, Nat.sub_self, Nat.sub_zero, List.replicate_zero, List.take_zero, List.nil_append, List.append_nil, fillC_zero, Nat.reduceDiv, Nat.reduceAdd, upd_bk, bk_at, getB_zero, getB_succ, modB_zero, modB_succ, rows_lit, repB_zero, repB_succ, List.length_cons, List.length_nil, upd_upd_same, upd_apply, mk_tmp, mk_heap, mk_gen, lookupA, lookupH, List.getD_cons_zero, List.getD_cons_succ, init_two, tops, Bool.true_and, and_self, and_true, true_and, true_or, if_true, if_false, ite_true, ite_false, reduceCtorEq, reduceIte, er]
                refine fam_allf fun x hx => ?_
                have hx2 : x < i := by rw [matR_length] at hx; exact hx
                have hne : ¬ x = i := by omega
                simp (config := {decide := true, maxSteps := 1000000}) only [NoH, nilQ, nilA, RechL, ReY, isNew, stepO, XPost, postN, XOk, updN, updU, isEff, avalue, aeff, ASt.eval, ASt.put, ASt.set, ASt.new, Nat.reduceDiv, Nat.reduceAdd, Int.reduceToNat, absV, absC, scalar, alen, acap, conc, flats, live, blkOf, aload, rd, part?, afieldAddr, afield, aindexAddr, cellsOf, afill, places, abuild, optI, asliceV, asliceS, szOk, srcCells, aappend, astore, amakeSlice, abuildSlice, snapL, mapO, treeL, AVal.tree, AVal.flatT, isFlat, ares, isFz, afroz, afrozB, lookupA, lookupH, tops, if_true, if_false, reduceCtorEq, forall_const, ite_true, ite_false, implies_true, walkS, tabS, Try.results72, hne, famH_at (f := AVal.b) (ν := 8) (gs := gs) hx]
        · have e : k = n := by omega
          subst e
          have hcl : (famC 8 gs (matR (secT q k) k i)).length = i := by rw [len_famC, matR_length]
          have htk : List.take i (famC 8 gs (matR (secT q k) k i)) = famC 8 gs (matR (secT q k) k i) := List.take_of_length_le (by omega)
          simp (config := {decide := true, maxSteps := 1000000}) only [NoH, nilQ, nilA, RechL, ReY, isNew, stepO, XPost, postN, XOk, updN, updU, isEff, avalue, aeff, ASt.eval, ASt.put, ASt.set, ASt.new, Nat.reduceDiv, Nat.reduceAdd, Int.reduceToNat, absV, absC, scalar, alen, acap, conc, flats, live, blkOf, aload, rd, part?, afieldAddr, afield, aindexAddr, cellsOf, afill, places, abuild, optI, asliceV, asliceS, szOk, srcCells, aappend, astore, amakeSlice, abuildSlice, snapL, mapO, treeL, AVal.tree, AVal.flatT, isFlat, ares, isFz, afroz, afrozB, lookupA, lookupH, tops, if_true, if_false, reduceCtorEq, forall_const, ite_true, ite_false, implies_true, walkS, tabS, Try.results72, hw, ilt, klt, h9, hmt, hcl, htk, List.replicate_succ, List.flatten_cons, List.flatten_nil]
          refine ⟨⟨(i + 1, G + 1, G + 2, upd gs i G), ilt⟩, ?_, by show _ - (i + 1) < _ - i; omega⟩
          have er : rowB (rowT q k i k 0) k = rowB (secT q k i) k := rowB_congr fun y hy => by
            rw [rowT_zero]
            exact ⟨fun h => h.2, fun h => ⟨by omega, h⟩⟩
          have es := matR_succ (secT q k) k i
          have ec := famC_snoc (ν := 8) (gs := gs) (ls := matR (secT q k) k i) (rowB (secT q k i) k) G
          rw [matR_length, rowB_length] at ec
          refine weak_mk rfl (by first | exact Nat.le_refl _ | (simp only [mk_gen]; omega)) ?_ ?_ <;> simp (config := {decide := true}) only [w_lookup_nil, w_lookup_cons, ch_ch, ch_lit, lit_ch, wkT, wkH, wkB, WVL, WV_refl', Int.natCast_zero, Int.natCast_add, Int.natCast_one, Nat.sub_self, Nat.sub_zero, List.replicate_zero, List.take_zero, List.nil_append, List.append_nil, fillC_zero, Nat.reduceDiv, Nat.reduceAdd, upd_bk, bk_at, getB_zero, getB_succ, modB_zero, modB_succ, rows_lit, repB_zero, repB_succ, List.length_cons, List.length_nil, upd_upd_same, upd_apply, mk_tmp, mk_heap, mk_gen, lookupA, lookupH, List.getD_cons_zero, List.getD_cons_succ, init_two, tops, Bool.true_and, and_self, and_true, true_and, true_or, if_true, if_false, ite_true, ite_false, reduceCtorEq, reduceIte, es, ec, er, hcl, htk]
          refine fam_allf fun j hj => ?_
          have hj2 : j < i + 1 := by rw [← es, matR_length] at hj; exact hj
          have eg := matR_get (secT q k) k (i + 1) j hj2
          simp only [es] at eg
          by_cases ej : j = i
          · subst ej
            have e5 : upd gs j G j = G := by simp [upd]
            simp (config := {decide := true, maxSteps := 1000000}) only [NoH, nilQ, nilA, RechL, ReY, isNew, stepO, XPost, postN, XOk, updN, updU, isEff, avalue, aeff, ASt.eval, ASt.put, ASt.set, ASt.new, Nat.reduceDiv, Nat.reduceAdd, Int.reduceToNat, absV, absC, scalar, alen, acap, conc, flats, live, blkOf, aload, rd, part?, afieldAddr, afield, aindexAddr, cellsOf, afill, places, abuild, optI, asliceV, asliceS, szOk, srcCells, aappend, astore, amakeSlice, abuildSlice, snapL, mapO, treeL, AVal.tree, AVal.flatT, isFlat, ares, isFz, afroz, afrozB, lookupA, lookupH, tops, if_true, if_false, reduceCtorEq, forall_const, ite_true, ite_false, implies_true, walkS, tabS, Try.results72, e5, eg, er]
          · have hj3 : j < i := by omega
            have e5 : upd gs i G j = gs j := by simp [upd, ej]
            have e6 := matR_at (ν := 8) (gs := gs) (q := secT q k) (n := k) hj3
            simp (config := {decide := true, maxSteps := 1000000}) only [NoH, nilQ, nilA, RechL, ReY, isNew, stepO, XPost, postN, XOk, updN, updU, isEff, avalue, aeff, ASt.eval, ASt.put, ASt.set, ASt.new, Nat.reduceDiv, Nat.reduceAdd, Int.reduceToNat, absV, absC, scalar, alen, acap, conc, flats, live, blkOf, aload, rd, part?, afieldAddr, afield, aindexAddr, cellsOf, afill, places, abuild, optI, asliceV, asliceS, szOk, srcCells, aappend, astore, amakeSlice, abuildSlice, snapL, mapO, treeL, AVal.tree, AVal.flatT, isFlat, ares, isFz, afroz, afrozB, lookupA, lookupH, tops, if_true, if_false, reduceCtorEq, forall_const, ite_true, ite_false, implies_true, walkS, tabS, Try.results72, e5, eg, ej, e6]
    · have e : i = n := by omega
      subst e
      simp (config := {decide := true, maxSteps := 1000000}) only [NoH, nilQ, nilA, RechL, ReY, isNew, stepO, XPost, postN, XOk, updN, updU, isEff, avalue, aeff, ASt.eval, ASt.put, ASt.set, ASt.new, Nat.reduceDiv, Nat.reduceAdd, Int.reduceToNat, absV, absC, scalar, alen, acap, conc, flats, live, blkOf, aload, rd, part?, afieldAddr, afield, aindexAddr, cellsOf, afill, places, abuild, optI, asliceV, asliceS, szOk, srcCells, aappend, astore, amakeSlice, abuildSlice, snapL, mapO, treeL, AVal.tree, AVal.flatT, isFlat, ares, isFz, afroz, afrozB, lookupA, lookupH, tops, if_true, if_false, reduceCtorEq, forall_const, ite_true, ite_false, implies_true, walkS, tabS, Try.results72, ilt, hmt, famS, famS2, famS3, famSB, matR_all, matB_length]
end Go.Proofs.Ytncbhafegccpmaa
