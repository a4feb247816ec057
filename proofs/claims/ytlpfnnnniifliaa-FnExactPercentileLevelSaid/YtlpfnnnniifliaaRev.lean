/-
  OWN WORK: the library's turning round of a slice: a call that writes what it is handed.
-/
import Derived.Test.YtlpfnnnniifliaaBase
namespace Go.Proofs.Ytlpfnnnniifliaa
open Go Go.Own Go.Proofs
set_option maxHeartbeats 4000000
set_option maxRecDepth 20000
set_option linter.unusedSimpArgs false
def revK (xs : List Int) : Nat → List Int
  | 0 => xs
  | k + 1 => ((revK xs k).set k ((revK xs k).getD (xs.length - 1 - k) 0)).set (xs.length - 1 - k) ((revK xs k).getD k 0)
theorem revK_length (xs : List Int) : ∀ k, (revK xs k).length = xs.length
  | 0 => rfl
  | k + 1 => by unfold revK; rw [List.length_set, List.length_set, revK_length xs k]
theorem revK_step {xs : List Int} {k : Nat} (h1 : k < (revK xs k).length) (h2 : xs.length - 1 - k < (revK xs k).length) :
    ((revK xs k).set k (revK xs k)[xs.length - 1 - k]).set (xs.length - 1 - k) (revK xs k)[k] = revK xs (k + 1) := by
  conv => rhs; unfold revK
  simp [List.getD, h1, h2]
theorem revK_get (xs : List Int) : ∀ (k : Nat), 2 * k ≤ xs.length → ∀ (i : Nat) (h : i < (revK xs k).length), (revK xs k)[i] = if i < k ∨ xs.length ≤ i + k then xs[xs.length - 1 - i]'(by rw [revK_length] at h; omega) else xs[i]'(by rw [revK_length] at h; omega)
  | 0, _, i, h => by
    have h' : i < xs.length := h
    rw [if_neg (by omega)]; rfl
  | k + 1, hk, i, h => by
    have hl := revK_length xs k
    have h' : i < xs.length := by rw [revK_length] at h; exact h
    have h1 : k < (revK xs k).length := by omega
    have h2 : xs.length - 1 - k < (revK xs k).length := by omega
    have e := revK_step h1 h2
    have e' : (revK xs (k + 1))[i] = (((revK xs k).set k (revK xs k)[xs.length - 1 - k]).set (xs.length - 1 - k) (revK xs k)[k])[i]'(by simpa using by omega) := by simp only [e]
    rw [e', List.getElem_set, List.getElem_set, revK_get xs k (by omega) k h1, revK_get xs k (by omega) _ h2, revK_get xs k (by omega) i (by omega)]
    by_cases c1 : xs.length - 1 - k = i
    · rw [if_pos c1, if_neg (by omega), if_pos (by omega)]
      congr 1; omega
    · rw [if_neg c1]
      by_cases c2 : k = i
      · subst c2
        rw [if_pos rfl, if_neg (by omega), if_pos (by omega)]
      · rw [if_neg c2]
        by_cases c3 : i < k ∨ xs.length ≤ i + k
        · rw [if_pos c3, if_pos (by omega)]
        · rw [if_neg c3, if_neg (by omega)]
theorem revK_rev (xs : List Int) (k : Nat) (h1 : 2 * k ≤ xs.length) (h2 : xs.length ≤ 2 * k + 1) : revK xs k = xs.reverse := by
  refine List.ext_getElem (by rw [revK_length, List.length_reverse]) fun i hi hj => ?_
  have h' : i < xs.length := by rw [revK_length] at hi; exact hi
  rw [revK_get xs k h1 i hi, List.getElem_reverse]
  by_cases c : i < k ∨ xs.length ≤ i + k
  · rw [if_pos c]
  · rw [if_neg c]
    congr 1; omega
theorem one_0 : one [] = AVal.tup [] := rfl
theorem denx_reverseI (xs : List Int) (hb : xs.length ≤ 1000000000000) : DenX Try.prog 26 [xints xs] [xints xs.reverse] (.tup []) := by
  refine denx_of_awp Try.func26 rfl (by kernel_rfl) (Nat.le_of_ble_eq_true rfl) (by simp +decide only [w_embA_nil, w_embA_cons, w_emb_v, w_emb_ol, w_emb_op, w_emb_agg, w_emb_tup, w_embL_nil, w_embL_cons, embL_i, List.map_cons, List.map_nil, List.nil_append, List.append_nil, List.cons_append, List.nodup_cons, List.nodup_nil, List.mem_cons, List.mem_nil_iff, List.not_mem_nil, ch_ch, ch_lit, lit_ch, Nat.reduceAdd]) mixed (by kernel_rfl) fun hl => ?_
  simp only [xlensL, xlens, lensL, lens, lensL_i, lensL_mapC, xlensL_i, maxI, and_true, true_and] at hl
  rw [Try.ntmps26]
  refine ex_start ?_
  have hw0 : IntKind.i64.wrap ((xs.length : Int) - 1) = (xs.length : Int) - 1 := wrap64 (by omega) (by omega)
  simp (config := { maxSteps := 1000000 }) +decide only [NoH, Old, OldL, nilQ, nilA, RechL, ReY, isNew, stepO, XPost, postN, XOk, updN, updU, isEff, avalue, aeff, ASt.eval, ASt.put, ASt.set, ASt.new, Nat.reduceDiv, Nat.reduceAdd, Int.reduceToNat, absV, absC, scalar, alen, acap, conc, flats, live, blkOf, aload, rd, part?, afieldAddr, afield, aindexAddr, cellsOf, afill, places, abuild, optI, asliceV, asliceS, szOk, srcCells, aappend, astore, amakeSlice, abuildSlice, snapL, mapO, treeL, AVal.tree, AVal.flatT, isFlat, ares, isFz, afroz, afrozB, lookupA, lookupH, tops, if_true, if_false, reduceCtorEq, forall_const, ite_true, ite_false, implies_true, walkS, tabS, Try.results26, hw0]
  refine ex_loop (fun k : {k : Nat // 2 * k ≤ xs.length} => mk [(0, .own 0 0 0 xs.length), (2, .i k), (3, .i ((xs.length : Int) - 1 - (k : Nat)))] [(0, ⟨0, 1, mapC AVal.i (revK xs k)⟩)] 1 28) (fun k => xs.length - k) ⟨0, by omega⟩ ?_ ?_
  · refine weak_mk rfl (by first | exact Nat.le_refl _ | (simp only [mk_gen]; omega)) ?_ ?_ <;> simp +decide only [w_lookup_nil, w_lookup_cons, ch_ch, ch_lit, lit_ch, wkT, wkH, wkB, WVL, WV_refl', Int.natCast_zero, Int.natCast_add, Int.natCast_one, Nat.sub_self, Nat.sub_zero, List.replicate_zero, List.take_zero, List.nil_append, List.append_nil, fillC_zero, Nat.reduceDiv, Nat.reduceAdd, upd_bk, bk_at, getB_zero, getB_succ, modB_zero, modB_succ, rows_lit, repB_zero, repB_succ, List.length_cons, List.length_nil, upd_upd_same, upd_apply, mk_tmp, mk_heap, mk_gen, lookupA, lookupH, List.getD_cons_zero, List.getD_cons_succ, init_two, tops, Bool.true_and, and_self, and_true, true_and, true_or, if_true, if_false, ite_true, ite_false, reduceCtorEq, reduceIte, revK, Int.sub_zero]
  · rintro ⟨k, hk⟩
    have hk' : 2 * k ≤ xs.length := hk
    have hcl := revK_length xs k
    by_cases hlt : (k : Int) < (xs.length : Int) - 1 - (k : Int)
    · have e1 : (xs.length : Int) - 1 - (k : Int) = ((xs.length - 1 - k : Nat) : Int) := by omega
      have hw : IntKind.i64.wrap ((k : Int) + 1) = ((k + 1 : Nat) : Int) := wrap64 (by omega) (by omega)
      have hw1 : IntKind.i64.wrap (((xs.length - 1 - k : Nat) : Int) - 1) = (xs.length : Int) - 1 - ((k + 1 : Nat) : Int) := (wrap64 (by omega) (by omega)).trans (by omega)
      have h1 : k < xs.length := by omega
      have h2 : xs.length - 1 - k < xs.length := by omega
      have h1' : k < (revK xs k).length := by omega
      have h2' : xs.length - 1 - k < (revK xs k).length := by omega
      have hne : k < xs.length - 1 - k := by omega
      simp (config := { maxSteps := 1000000 }) +decide only [NoH, Old, OldL, nilQ, nilA, RechL, ReY, isNew, stepO, XPost, postN, XOk, updN, updU, isEff, avalue, aeff, ASt.eval, ASt.put, ASt.set, ASt.new, Nat.reduceDiv, Nat.reduceAdd, Int.reduceToNat, absV, absC, scalar, alen, acap, conc, flats, live, blkOf, aload, rd, part?, afieldAddr, afield, aindexAddr, cellsOf, afill, places, abuild, optI, asliceV, asliceS, szOk, srcCells, aappend, astore, amakeSlice, abuildSlice, snapL, mapO, treeL, AVal.tree, AVal.flatT, isFlat, ares, isFz, afroz, afrozB, lookupA, lookupH, tops, if_true, if_false, reduceCtorEq, forall_const, ite_true, ite_false, implies_true, walkS, tabS, Try.results26, hw, hw1, hcl, e1, h1, h2, h1', h2', hne, List.length_set]
      refine ⟨⟨k + 1, by omega⟩, ?_, ?_⟩
      · refine weak_mk rfl (by first | exact Nat.le_refl _ | (simp only [mk_gen]; omega)) ?_ ?_ <;> simp +decide only [w_lookup_nil, w_lookup_cons, ch_ch, ch_lit, lit_ch, wkT, wkH, wkB, WVL, WV_refl', Int.natCast_zero, Int.natCast_add, Int.natCast_one, Nat.sub_self, Nat.sub_zero, List.replicate_zero, List.take_zero, List.nil_append, List.append_nil, fillC_zero, Nat.reduceDiv, Nat.reduceAdd, upd_bk, bk_at, getB_zero, getB_succ, modB_zero, modB_succ, rows_lit, repB_zero, repB_succ, List.length_cons, List.length_nil, upd_upd_same, upd_apply, mk_tmp, mk_heap, mk_gen, lookupA, lookupH, List.getD_cons_zero, List.getD_cons_succ, init_two, tops, Bool.true_and, and_self, and_true, true_and, true_or, if_true, if_false, ite_true, ite_false, reduceCtorEq, reduceIte, revK_step h1' h2']
      · show _ - (k + 1) < _ - k
        omega
    · have e : revK xs k = xs.reverse := revK_rev xs k hk' (by omega)
      have hcr : xs.reverse.length = xs.length := List.length_reverse
      have ht : xs.reverse.take xs.length = xs.reverse := List.take_of_length_le (by omega)
      simp (config := { maxSteps := 1000000 }) +decide only [NoH, Old, OldL, nilQ, nilA, RechL, ReY, isNew, stepO, XPost, postN, XOk, updN, updU, isEff, avalue, aeff, ASt.eval, ASt.put, ASt.set, ASt.new, Nat.reduceDiv, Nat.reduceAdd, Int.reduceToNat, absV, absC, scalar, alen, acap, conc, flats, live, blkOf, aload, rd, part?, afieldAddr, afield, aindexAddr, cellsOf, afill, places, abuild, optI, asliceV, asliceS, szOk, srcCells, aappend, astore, amakeSlice, abuildSlice, snapL, mapO, treeL, AVal.tree, AVal.flatT, isFlat, ares, isFz, afroz, afrozB, lookupA, lookupH, tops, if_true, if_false, reduceCtorEq, forall_const, ite_true, ite_false, implies_true, walkS, tabS, Try.results26, eq_false hlt, e, hcr, ht, one_0]
end Go.Proofs.Ytlpfnnnniifliaa
