/-
  OWN WORK: rows of rows that are handed over, marked, and looked at again.
-/
import Derived.Test.YtlcijhpjbkekpaaMk
import Derived.Test.YtlcijhpjbkekpaaFam
namespace Go.Proofs.Ytlcijhpjbkekpaa
open Go Go.Own Go.Proofs
set_option maxHeartbeats 4000000
set_option maxRecDepth 20000
set_option linter.unusedSimpArgs false
theorem lay_fam {ν k g : Nat} {gs : Nat → Nat} {xs : List (List Int)} {z : AVal} (hk : k < xs.length) : lay (famC ν gs (xs.take k) ++ List.replicate (xs.length - k) z) k [.own (ch ν k) g 0 xs[k].length] = famC ν (upd gs k g) (xs.take (k + 1)) ++ List.replicate (xs.length - (k + 1)) z := by
  have hl : (famC ν gs (xs.take k)).length = k := by rw [len_famC]; simp; omega
  have e : xs.length - k = (xs.length - (k + 1)) + 1 := by omega
  have htk : (xs.take k).length = k := by simp; omega
  have hs := famC_snoc (ν := ν) (gs := gs) (ls := xs.take k) xs[k] g
  rw [htk, ← List.take_succ_eq_append_getElem hk] at hs
  unfold lay
  rw [e, List.replicate_succ, List.take_append_of_le_length (by omega), List.take_of_length_le (by omega), List.drop_append, List.drop_of_length_le (by simp; omega), hl, hs]
  simp
theorem fam_step {s s' : ASt} {ν k g G : Nat} {gs : Nat → Nat} {xs : List (List Int)} (hk : k < xs.length) (hold : ∀ j (hj : j < k), s.heap (ch ν j) = some ⟨gs j, 1, mapC AVal.i (xs[j]'(by omega))⟩) (hnew : s.heap (ch ν k) = some ⟨g, 1, mapC AVal.i xs[k]⟩) :
    wkH s s' G (famH ν (upd gs k g) (xs.take (k + 1))) := by
  rw [wkH_fam]
  intro j hj
  have hj' : j < k + 1 := by simp at hj; omega
  by_cases e : j = k
  · subst e
    rw [hnew]
    exact ⟨by simp [upd], rfl, .inl (by simp)⟩
  · rw [hold j (by omega)]
    exact ⟨by simp [upd, e], rfl, .inl (by simp)⟩
def tot0 (xs : List (List Int)) : Int := (xs.map (fun x => (x.length : Int))).sum
theorem tot0_nonneg (xs : List (List Int)) : 0 ≤ tot0 xs := sum_nonneg _ (fun _ => by omega) xs
theorem tot0_snoc (xs : List (List Int)) (x : List Int) : tot0 (xs ++ [x]) = tot0 xs + x.length := by simp [tot0]
theorem tot0_take (xs : List (List Int)) (k : Nat) : tot0 (xs.take k) ≤ tot0 xs := sum_take_le _ (fun _ => by omega) xs k
theorem tot_nonneg (xs : List (List Int)) : 0 ≤ tot (fun x => (x.length : Int)) xs := by
  have h0 := tot0_nonneg xs
  have h1 : tot (fun x => (x.length : Int)) xs = xs.length + tot0 xs := rfl
  omega
structure RowsB (xs : List (List Int)) : Prop where
  len : xs.length ≤ 1000000000000
  row : ∀ x ∈ xs, x.length ≤ 1000000000000
  all : tot0 xs ≤ 1000000000000
theorem row_le {xs : List (List Int)} {x : List Int} (h : x ∈ xs) : (x.length : Int) ≤ tot0 xs := by
  unfold tot0
  induction xs with
  | nil => simp at h
  | cons y l ih =>
    have hn := tot0_nonneg l
    unfold tot0 at hn
    rcases List.mem_cons.1 h with e | e
    · subst e; simp; omega
    · have := ih e
      simp
      omega
theorem rowsB_of {xs : List (List Int)} (h : tot (fun x => (x.length : Int)) xs ≤ 1000000000000) : RowsB xs := by
  have h0 := tot0_nonneg xs
  have h1 : tot (fun x => (x.length : Int)) xs = xs.length + tot0 xs := rfl
  exact ⟨by omega, fun x hx => by have := row_le hx; omega, by omega⟩
/-- the first j rows marked -/
def mkJ (k : Int) (xs : List (List Int)) : Nat → List (List Int)
  | 0 => xs
  | j + 1 => (mkJ k xs j).set j (marks (k + tot0 (xs.take j)) (xs.getD j []).length)
def markss (k : Int) (xs : List (List Int)) : List (List Int) := mkJ k xs xs.length
theorem mkJ_length (k : Int) (xs : List (List Int)) : ∀ j, (mkJ k xs j).length = xs.length
  | 0 => rfl
  | j + 1 => by simp [mkJ, mkJ_length k xs j]
theorem mkJ_get (k : Int) (xs : List (List Int)) : ∀ (j i : Nat) (h : i < xs.length), (mkJ k xs j)[i]'(by rw [mkJ_length]; exact h) = if i < j then marks (k + tot0 (xs.take i)) xs[i].length else xs[i]
  | 0, i, h => by simp [mkJ]
  | j + 1, i, h => by
    have ih := mkJ_get k xs j i h
    simp only [mkJ, List.getElem_set]
    by_cases e : j = i
    · subst e
      rw [if_pos rfl, if_pos (by omega)]
      simp [List.getD, h]
    · rw [if_neg e, ih]
      by_cases c : i < j
      · rw [if_pos c, if_pos (by omega)]
      · rw [if_neg c, if_neg (by omega)]
theorem markss_length (k : Int) (xs : List (List Int)) : (markss k xs).length = xs.length := mkJ_length k xs _
theorem markss_get (k : Int) (xs : List (List Int)) (i : Nat) (h : i < xs.length) : (markss k xs)[i]'(by rw [markss_length]; exact h) = marks (k + tot0 (xs.take i)) xs[i].length := by
  have := mkJ_get k xs xs.length i h
  rw [if_pos h] at this
  exact this
theorem tot0_succ (xs : List (List Int)) (j : Nat) (h : j < xs.length) : tot0 (xs.take (j + 1)) = tot0 (xs.take j) + xs[j].length := by
  rw [List.take_succ_eq_append_getElem h, tot0_snoc]
theorem famC_len {ν : Nat} {gs : Nat → Nat} {a b : List (List Int)} (hl : a.length = b.length) (h : ∀ i (h1 : i < a.length) (h2 : i < b.length), a[i].length = b[i].length) : famC ν gs a = famC ν gs b := by
  apply List.ext_getElem?
  intro i
  by_cases hi : i < a.length
  · rw [get_famC hi, get_famC (show i < b.length by omega), h i hi (by omega)]
  · rw [List.getElem?_eq_none (by rw [len_famC]; omega), List.getElem?_eq_none (by rw [len_famC]; omega)]
theorem famC_mkJ {ν : Nat} {gs : Nat → Nat} (k : Int) (xs : List (List Int)) (j : Nat) : famC ν gs (mkJ k xs j) = famC ν gs xs := by
  refine famC_len (mkJ_length k xs j) fun i h1 h2 => ?_
  rw [mkJ_get k xs j i h2]
  split
  · rw [marks_length]
  · rfl
theorem fam_all {s s' : ASt} {ν G : Nat} {gs : Nat → Nat} {ls : List (List Int)} (h : ∀ j (hj : j < ls.length), s.heap (ch ν j) = some ⟨gs j, 1, mapC AVal.i ls[j]⟩) : wkH s s' G (famH ν gs ls) := by
  rw [wkH_fam]
  intro j hj
  rw [h j hj]
  exact ⟨rfl, rfl, .inl rfl⟩
theorem denx_markInt64SS (xs : List (List Int)) (k : Int) (h0 : 0 ≤ k) (h1 : k ≤ 10000000000000) (hb : RowsB xs) : DenX Try.prog 11 [.ol 1 (mapC xints xs) xs.length, xi k] [.ol 1 (mapC xints (markss k xs)) xs.length, xi k] (xi (k + tot0 xs)) := by
  refine denx_of_awp Try.func11 rfl (by kernel_rfl) (Nat.le_of_ble_eq_true rfl) (by simp +decide only [w_embA_nil, w_embA_cons, w_emb_v, w_emb_ol, w_emb_op, w_emb_agg, w_emb_tup, w_embL_nil, w_embL_cons, embL_i, List.map_cons, List.map_nil, List.nil_append, List.append_nil, List.cons_append, List.nodup_cons, List.nodup_nil, List.mem_cons, List.mem_nil_iff, List.not_mem_nil, ch_ch, ch_lit, lit_ch, Nat.reduceAdd, famS, famS2, famS3, len_mapC]) mixed (by kernel_rfl) fun hl => ?_
  simp only [xlensL, xlens, lensL, lens, lensL_i, lensL_mapC, xlensL_i, xlensL_rows, maxI, and_true, true_and] at hl
  rw [Try.ntmps11]
  refine ex_start ?_
  have hb1 := hb.len
  have hb2 := hb.all
  simp (config := { maxSteps := 1000000 }) +decide only [NoH, Old, OldL, nilQ, nilA, RechL, ReY, isNew, stepO, XPost, postN, XOk, updN, updU, isEff, avalue, aeff, ASt.eval, ASt.put, ASt.set, ASt.new, Nat.reduceDiv, Nat.reduceAdd, Int.reduceToNat, absV, absC, scalar, alen, acap, conc, flats, live, blkOf, aload, rd, part?, afieldAddr, afield, aindexAddr, cellsOf, afill, places, abuild, optI, asliceV, asliceS, szOk, srcCells, aappend, astore, amakeSlice, abuildSlice, snapL, mapO, treeL, AVal.tree, AVal.flatT, isFlat, ares, isFz, afroz, afrozB, lookupA, lookupH, tops, if_true, if_false, reduceCtorEq, forall_const, ite_true, ite_false, implies_true, walkS, tabS, Try.results11, famS, famS2, famS3]
  refine ex_loop (fun j : {j : Nat // j ≤ xs.length} => mk [(0, .own 0 0 0 xs.length), (1, .i (k + tot0 (xs.take j))), (5, .i j)] ((0, ⟨0, 1, famC 0 (fun _ => 0) xs⟩) :: famH 0 (fun _ => 0) (mkJ k xs j)) (j + 1) 19) (fun j => xs.length - j) ⟨0, by simp⟩ ?_ ?_
  · refine weak_mk rfl (by first | exact Nat.le_refl _ | (simp only [mk_gen]; omega)) ?_ ?_ <;> simp +decide only [w_lookup_nil, w_lookup_cons, ch_ch, ch_lit, lit_ch, wkT, wkH, wkB, WVL, WV_refl', Int.natCast_zero, Int.natCast_add, Int.natCast_one, Nat.sub_self, Nat.sub_zero, List.replicate_zero, List.take_zero, List.nil_append, List.append_nil, fillC_zero, Nat.reduceDiv, Nat.reduceAdd, upd_bk, bk_at, getB_zero, getB_succ, modB_zero, modB_succ, rows_lit, repB_zero, repB_succ, List.length_cons, List.length_nil, upd_upd_same, upd_apply, mk_tmp, mk_heap, mk_gen, lookupA, lookupH, List.getD_cons_zero, List.getD_cons_succ, init_two, tops, Bool.true_and, and_self, and_true, true_and, true_or, if_true, if_false, ite_true, ite_false, reduceCtorEq, reduceIte, famS, famS2, famS3, tot0, List.map_nil, List.sum_nil, Int.add_zero]
    refine fam_all (ls := xs) fun j hj => ?_
    simp (config := { maxSteps := 1000000 }) +decide only [NoH, Old, OldL, nilQ, nilA, RechL, ReY, isNew, stepO, XPost, postN, XOk, updN, updU, isEff, avalue, aeff, ASt.eval, ASt.put, ASt.set, ASt.new, Nat.reduceDiv, Nat.reduceAdd, Int.reduceToNat, absV, absC, scalar, alen, acap, conc, flats, live, blkOf, aload, rd, part?, afieldAddr, afield, aindexAddr, cellsOf, afill, places, abuild, optI, asliceV, asliceS, szOk, srcCells, aappend, astore, amakeSlice, abuildSlice, snapL, mapO, treeL, AVal.tree, AVal.flatT, isFlat, ares, isFz, afroz, afrozB, lookupA, lookupH, tops, if_true, if_false, reduceCtorEq, forall_const, ite_true, ite_false, implies_true, walkS, tabS, Try.results11, lookU_at hj]
  · rintro ⟨j, hj⟩
    have hml := mkJ_length k xs j
    by_cases hlt : j < xs.length
    · have hw : IntKind.i64.wrap ((j : Int) + 1) = ((j + 1 : Nat) : Int) := wrap64 (by omega) (by omega)
      have t1 := tot0_take xs j
      have t2 := tot0_nonneg (xs.take j)
      have hjm : j < (mkJ k xs j).length := by omega
      have hx : (mkJ k xs j)[j] = xs[j] := by rw [mkJ_get k xs j j hlt, if_neg (by omega)]
      simp (config := { maxSteps := 1000000 }) +decide only [NoH, Old, OldL, nilQ, nilA, RechL, ReY, isNew, stepO, XPost, postN, XOk, updN, updU, isEff, avalue, aeff, ASt.eval, ASt.put, ASt.set, ASt.new, Nat.reduceDiv, Nat.reduceAdd, Int.reduceToNat, absV, absC, scalar, alen, acap, conc, flats, live, blkOf, aload, rd, part?, afieldAddr, afield, aindexAddr, cellsOf, afill, places, abuild, optI, asliceV, asliceS, szOk, srcCells, aappend, astore, amakeSlice, abuildSlice, snapL, mapO, treeL, AVal.tree, AVal.flatT, isFlat, ares, isFz, afroz, afrozB, lookupA, lookupH, tops, if_true, if_false, reduceCtorEq, forall_const, ite_true, ite_false, implies_true, walkS, tabS, Try.results11, hw, hlt, get_famC hlt, famS, famS2, famS3]
      refine callX (denx_markInt64S xs[j] (k + tot0 (xs.take j)) (by omega) (by omega) (hb.row _ (List.getElem_mem hlt))) (by simp (config := { maxSteps := 1000000 }) +decide only [NoH, Old, OldL, nilQ, nilA, RechL, ReY, isNew, stepO, XPost, postN, XOk, updN, updU, isEff, avalue, aeff, ASt.eval, ASt.put, ASt.set, ASt.new, Nat.reduceDiv, Nat.reduceAdd, Int.reduceToNat, absV, absC, scalar, alen, acap, conc, flats, live, blkOf, aload, rd, part?, afieldAddr, afield, aindexAddr, cellsOf, afill, places, abuild, optI, asliceV, asliceS, szOk, srcCells, aappend, astore, amakeSlice, abuildSlice, snapL, mapO, treeL, AVal.tree, AVal.flatT, isFlat, ares, isFz, afroz, afrozB, lookupA, lookupH, tops, if_true, if_false, reduceCtorEq, forall_const, ite_true, ite_false, implies_true, walkS, tabS, Try.results11, marks_length, famS, famS2, famS3, famH_at hjm, hx]) ?_
      simp (config := { maxSteps := 1000000 }) +decide only [NoH, Old, OldL, nilQ, nilA, RechL, ReY, isNew, stepO, XPost, postN, XOk, updN, updU, isEff, avalue, aeff, ASt.eval, ASt.put, ASt.set, ASt.new, Nat.reduceDiv, Nat.reduceAdd, Int.reduceToNat, absV, absC, scalar, alen, acap, conc, flats, live, blkOf, aload, rd, part?, afieldAddr, afield, aindexAddr, cellsOf, afill, places, abuild, optI, asliceV, asliceS, szOk, srcCells, aappend, astore, amakeSlice, abuildSlice, snapL, mapO, treeL, AVal.tree, AVal.flatT, isFlat, ares, isFz, afroz, afrozB, lookupA, lookupH, tops, if_true, if_false, reduceCtorEq, forall_const, ite_true, ite_false, implies_true, walkS, tabS, Try.results11, hw, hlt, famS, famS2, famS3, famH_at hjm, hx]
      refine ⟨⟨j + 1, hlt⟩, ?_, by show _ - (j + 1) < _ - j; omega⟩
      have he : k + tot0 (xs.take j) + (xs[j].length : Int) = k + tot0 (xs.take (j + 1)) := by rw [tot0_succ xs j hlt]; omega
      refine weak_mk rfl (by first | exact Nat.le_refl _ | (simp only [mk_gen]; omega)) ?_ ?_ <;> simp +decide only [w_lookup_nil, w_lookup_cons, ch_ch, ch_lit, lit_ch, wkT, wkH, wkB, WVL, WV_refl', Int.natCast_zero, Int.natCast_add, Int.natCast_one, Nat.sub_self, Nat.sub_zero, List.replicate_zero, List.take_zero, List.nil_append, List.append_nil, fillC_zero, Nat.reduceDiv, Nat.reduceAdd, upd_bk, bk_at, getB_zero, getB_succ, modB_zero, modB_succ, rows_lit, repB_zero, repB_succ, List.length_cons, List.length_nil, upd_upd_same, upd_apply, mk_tmp, mk_heap, mk_gen, lookupA, lookupH, List.getD_cons_zero, List.getD_cons_succ, init_two, tops, Bool.true_and, and_self, and_true, true_and, true_or, if_true, if_false, ite_true, ite_false, reduceCtorEq, reduceIte, he, famS, famS2, famS3]
      refine fam_all fun i hi => ?_
      have hi' : i < xs.length := by rw [mkJ_length] at hi; exact hi
      by_cases e : i = j
      · subst e
        have e2 : (mkJ k xs (i + 1))[i] = marks (k + tot0 (xs.take i)) xs[i].length := by rw [mkJ_get k xs (i + 1) i hi', if_pos (by omega)]
        simp (config := { maxSteps := 1000000 }) +decide only [NoH, Old, OldL, nilQ, nilA, RechL, ReY, isNew, stepO, XPost, postN, XOk, updN, updU, isEff, avalue, aeff, ASt.eval, ASt.put, ASt.set, ASt.new, Nat.reduceDiv, Nat.reduceAdd, Int.reduceToNat, absV, absC, scalar, alen, acap, conc, flats, live, blkOf, aload, rd, part?, afieldAddr, afield, aindexAddr, cellsOf, afill, places, abuild, optI, asliceV, asliceS, szOk, srcCells, aappend, astore, amakeSlice, abuildSlice, snapL, mapO, treeL, AVal.tree, AVal.flatT, isFlat, ares, isFz, afroz, afrozB, lookupA, lookupH, tops, if_true, if_false, reduceCtorEq, forall_const, ite_true, ite_false, implies_true, walkS, tabS, Try.results11, e2, famS, famS2, famS3]
      · have e1 : (mkJ k xs (j + 1))[i] = (mkJ k xs j)[i]'(by omega) := by
          rw [mkJ_get k xs (j + 1) i hi', mkJ_get k xs j i hi']
          by_cases c : i < j
          · rw [if_pos c, if_pos (by omega)]
          · rw [if_neg c, if_neg (by omega)]
        have him : i < (mkJ k xs j).length := by omega
        simp (config := { maxSteps := 1000000 }) +decide only [NoH, Old, OldL, nilQ, nilA, RechL, ReY, isNew, stepO, XPost, postN, XOk, updN, updU, isEff, avalue, aeff, ASt.eval, ASt.put, ASt.set, ASt.new, Nat.reduceDiv, Nat.reduceAdd, Int.reduceToNat, absV, absC, scalar, alen, acap, conc, flats, live, blkOf, aload, rd, part?, afieldAddr, afield, aindexAddr, cellsOf, afill, places, abuild, optI, asliceV, asliceS, szOk, srcCells, aappend, astore, amakeSlice, abuildSlice, snapL, mapO, treeL, AVal.tree, AVal.flatT, isFlat, ares, isFz, afroz, afrozB, lookupA, lookupH, tops, if_true, if_false, reduceCtorEq, forall_const, ite_true, ite_false, implies_true, walkS, tabS, Try.results11, e1, e, famS, famS2, famS3, famH_at him]
    · have e : j = xs.length := by omega
      subst e
      have hf : famC 0 (fun _ => 0) xs = famC 0 (fun _ => 0) (mkJ k xs xs.length) := (famC_mkJ k xs _).symm
      have hml : (mkJ k xs xs.length).length = xs.length := mkJ_length k xs _
      have htk : List.take xs.length (famC 0 (fun _ => 0) (mkJ k xs xs.length)) = famC 0 (fun _ => 0) (mkJ k xs xs.length) := List.take_of_length_le (by rw [len_famC]; omega)
      rw [hf]
      simp (config := { maxSteps := 1000000 }) +decide only [NoH, Old, OldL, nilQ, nilA, RechL, ReY, isNew, stepO, XPost, postN, XOk, updN, updU, isEff, avalue, aeff, ASt.eval, ASt.put, ASt.set, ASt.new, Nat.reduceDiv, Nat.reduceAdd, Int.reduceToNat, absV, absC, scalar, alen, acap, conc, flats, live, blkOf, aload, rd, part?, afieldAddr, afield, aindexAddr, cellsOf, afill, places, abuild, optI, asliceV, asliceS, szOk, srcCells, aappend, astore, amakeSlice, abuildSlice, snapL, mapO, treeL, AVal.tree, AVal.flatT, isFlat, ares, isFz, afroz, afrozB, lookupA, lookupH, tops, if_true, if_false, reduceCtorEq, forall_const, ite_true, ite_false, implies_true, walkS, tabS, Try.results11, hlt, List.take_length, famS, famS2, famS3, markss, len_mapC, hml, htk]
theorem den_heldSS (k : Int) (xs : List (List Int)) (h0 : 0 ≤ k) (h1 : k ≤ 10000000000000) (hb : RowsB xs) : Den Try.prog 12 [.lst (mapC ints (markss k xs)) xs.length, .i k] (.i (k + tot0 xs)) := by
  refine den_of_awp Try.func12 rfl (by kernel_rfl) (Nat.le_of_ble_eq_true rfl) (by simp only [treeL, AVal.tree, treeL_i, treeL_ints, treeL_u8, treeL_append, Bool.and_self, Bool.and_true, Bool.true_and]) (by first | rfl | simp only [treeL, AVal.tree, treeL_i, treeL_ints, treeL_u8, treeL_append, Bool.and_self, Bool.and_true, Bool.true_and]) mixed (by kernel_rfl) fun hl => ?_
  simp only [lensL, lens, lensL_i, lensL_mapC, maxI, and_true, true_and] at hl
  rw [Try.ntmps12]
  refine ex_start ?_
  have hb1 := hb.len
  have hb2 := hb.all
  have hml := markss_length k xs
  simp (config := { maxSteps := 1000000 }) +decide only [NoH, Old, OldL, nilQ, nilA, RechL, ReY, isNew, stepO, XPost, postN, XOk, updN, updU, isEff, avalue, aeff, ASt.eval, ASt.put, ASt.set, ASt.new, Nat.reduceDiv, Nat.reduceAdd, Int.reduceToNat, absV, absC, scalar, alen, acap, conc, flats, live, blkOf, aload, rd, part?, afieldAddr, afield, aindexAddr, cellsOf, afill, places, abuild, optI, asliceV, asliceS, szOk, srcCells, aappend, astore, amakeSlice, abuildSlice, snapL, mapO, treeL, AVal.tree, AVal.flatT, isFlat, ares, isFz, afroz, afrozB, lookupA, lookupH, tops, if_true, if_false, reduceCtorEq, forall_const, ite_true, ite_false, implies_true, walkS, tabS, Try.results12]
  refine ex_loop (fun j : {j : Nat // j ≤ xs.length} => mk [(0, .lst (mapC ints (markss k xs)) xs.length), (1, .i (k + tot0 (xs.take j))), (5, .i j)] [] 0 21) (fun j => xs.length - j) ⟨0, by simp⟩ ?_ ?_
  · refine weak_mk rfl (by first | exact Nat.le_refl _ | (simp only [mk_gen]; omega)) ?_ ?_ <;> simp +decide only [w_lookup_nil, w_lookup_cons, ch_ch, ch_lit, lit_ch, wkT, wkH, wkB, WVL, WV_refl', Int.natCast_zero, Int.natCast_add, Int.natCast_one, Nat.sub_self, Nat.sub_zero, List.replicate_zero, List.take_zero, List.nil_append, List.append_nil, fillC_zero, Nat.reduceDiv, Nat.reduceAdd, upd_bk, bk_at, getB_zero, getB_succ, modB_zero, modB_succ, rows_lit, repB_zero, repB_succ, List.length_cons, List.length_nil, upd_upd_same, upd_apply, mk_tmp, mk_heap, mk_gen, lookupA, lookupH, List.getD_cons_zero, List.getD_cons_succ, init_two, tops, Bool.true_and, and_self, and_true, true_and, true_or, if_true, if_false, ite_true, ite_false, reduceCtorEq, reduceIte, tot0, List.map_nil, List.sum_nil, Int.add_zero]
  · rintro ⟨j, hj⟩
    by_cases hlt : j < xs.length
    · have hw : IntKind.i64.wrap ((j : Int) + 1) = ((j + 1 : Nat) : Int) := wrap64 (by omega) (by omega)
      have t1 := tot0_take xs j
      have t2 := tot0_nonneg (xs.take j)
      have hjm : j < (markss k xs).length := by omega
      have hx := markss_get k xs j hlt
      have hrow := hb.row _ (List.getElem_mem hlt)
      simp (config := { maxSteps := 1000000 }) +decide only [NoH, Old, OldL, nilQ, nilA, RechL, ReY, isNew, stepO, XPost, postN, XOk, updN, updU, isEff, avalue, aeff, ASt.eval, ASt.put, ASt.set, ASt.new, Nat.reduceDiv, Nat.reduceAdd, Int.reduceToNat, absV, absC, scalar, alen, acap, conc, flats, live, blkOf, aload, rd, part?, afieldAddr, afield, aindexAddr, cellsOf, afill, places, abuild, optI, asliceV, asliceS, szOk, srcCells, aappend, astore, amakeSlice, abuildSlice, snapL, mapO, treeL, AVal.tree, AVal.flatT, isFlat, ares, isFz, afroz, afrozB, lookupA, lookupH, tops, if_true, if_false, reduceCtorEq, forall_const, ite_true, ite_false, implies_true, walkS, tabS, Try.results12, hw, hlt, hjm, hml, hx]
      refine callK (den_heldInt64S (k + tot0 (xs.take j)) xs[j].length (by omega) (by omega) hrow) (by first | exact .inl rfl | exact .inr rfl) ?_
      have he : k + tot0 (xs.take j) + (xs[j].length : Int) = k + tot0 (xs.take (j + 1)) := by rw [tot0_succ xs j hlt]; omega
      have hn : ¬ (k + tot0 (xs.take (j + 1)) < 0) := by omega
      simp (config := { maxSteps := 1000000 }) +decide only [NoH, Old, OldL, nilQ, nilA, RechL, ReY, isNew, stepO, XPost, postN, XOk, updN, updU, isEff, avalue, aeff, ASt.eval, ASt.put, ASt.set, ASt.new, Nat.reduceDiv, Nat.reduceAdd, Int.reduceToNat, absV, absC, scalar, alen, acap, conc, flats, live, blkOf, aload, rd, part?, afieldAddr, afield, aindexAddr, cellsOf, afill, places, abuild, optI, asliceV, asliceS, szOk, srcCells, aappend, astore, amakeSlice, abuildSlice, snapL, mapO, treeL, AVal.tree, AVal.flatT, isFlat, ares, isFz, afroz, afrozB, lookupA, lookupH, tops, if_true, if_false, reduceCtorEq, forall_const, ite_true, ite_false, implies_true, walkS, tabS, Try.results12, hw, he, hn]
      refine ⟨⟨j + 1, hlt⟩, ?_, by show _ - (j + 1) < _ - j; omega⟩
      refine weak_mk rfl (by first | exact Nat.le_refl _ | (simp only [mk_gen]; omega)) ?_ ?_ <;> simp +decide only [w_lookup_nil, w_lookup_cons, ch_ch, ch_lit, lit_ch, wkT, wkH, wkB, WVL, WV_refl', Int.natCast_zero, Int.natCast_add, Int.natCast_one, Nat.sub_self, Nat.sub_zero, List.replicate_zero, List.take_zero, List.nil_append, List.append_nil, fillC_zero, Nat.reduceDiv, Nat.reduceAdd, upd_bk, bk_at, getB_zero, getB_succ, modB_zero, modB_succ, rows_lit, repB_zero, repB_succ, List.length_cons, List.length_nil, upd_upd_same, upd_apply, mk_tmp, mk_heap, mk_gen, lookupA, lookupH, List.getD_cons_zero, List.getD_cons_succ, init_two, tops, Bool.true_and, and_self, and_true, true_and, true_or, if_true, if_false, ite_true, ite_false, reduceCtorEq, reduceIte]
    · have e : j = xs.length := by omega
      subst e
      simp (config := { maxSteps := 1000000 }) +decide only [NoH, Old, OldL, nilQ, nilA, RechL, ReY, isNew, stepO, XPost, postN, XOk, updN, updU, isEff, avalue, aeff, ASt.eval, ASt.put, ASt.set, ASt.new, Nat.reduceDiv, Nat.reduceAdd, Int.reduceToNat, absV, absC, scalar, alen, acap, conc, flats, live, blkOf, aload, rd, part?, afieldAddr, afield, aindexAddr, cellsOf, afill, places, abuild, optI, asliceV, asliceS, szOk, srcCells, aappend, astore, amakeSlice, abuildSlice, snapL, mapO, treeL, AVal.tree, AVal.flatT, isFlat, ares, isFz, afroz, afrozB, lookupA, lookupH, tops, if_true, if_false, reduceCtorEq, forall_const, ite_true, ite_false, implies_true, walkS, tabS, Try.results12, hlt, List.take_length]
end Go.Proofs.Ytlcijhpjbkekpaa
