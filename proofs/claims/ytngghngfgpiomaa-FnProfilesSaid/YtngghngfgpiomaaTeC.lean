/-
  OWN WORK: rows of points given by their numbers; the library's turning round of such a row.
-/
import Derived.Test.YtngghngfgpiomaaRt
namespace Go.Proofs.Ytngghngfgpiomaa
open Go Go.Own Go.Proofs
set_option maxHeartbeats 4000000
set_option maxRecDepth 20000
set_option linter.unusedSimpArgs false
def fl (f g : Nat → Int) : Nat → List Int
  | 0 => []
  | n + 1 => fl f g n ++ [f n, g n]
theorem fl_len (f g : Nat → Int) : ∀ n, (fl f g n).length = n * 2
  | 0 => rfl
  | n + 1 => by unfold fl; rw [List.length_append, fl_len f g n, Nat.succ_mul]; rfl
theorem fl_zero (f g : Nat → Int) : fl f g 0 = [] := rfl
theorem fl_snoc (f g : Nat → Int) (n : Nat) : mapC AVal.i (fl f g n) ++ [.i (f n), .i (g n)] = mapC AVal.i (fl f g (n + 1)) := by
  show _ = mapC AVal.i (fl f g n ++ [f n, g n])
  simp [mapC]
theorem fl_get (f g : Nat → Int) : ∀ (n k : Nat) (h : k < n), (fl f g n)[k * 2]'(by rw [fl_len]; omega) = f k ∧ (fl f g n)[k * 2 + 1]'(by rw [fl_len]; omega) = g k
  | n + 1, k, h => by
    have hl := fl_len f g n
    unfold fl
    by_cases e : k = n
    · subst e
      rw [List.getElem_append_right (by omega), List.getElem_append_right (by omega)]
      simp only [hl, Nat.sub_self, Nat.add_sub_cancel_left]
      exact ⟨rfl, rfl⟩
    · rw [List.getElem_append_left (by omega), List.getElem_append_left (by omega)]
      exact fl_get f g n k (by omega)
theorem fl_ld (f g : Nat → Int) {n k : Nat} (h : k < n) : mapC AVal.i (List.take 2 (List.drop (k * 2) (fl f g n))) = [.i (f k), .i (g k)] := by
  have hl := fl_len f g n
  obtain ⟨e1, e2⟩ := fl_get f g n k h
  rw [List.drop_eq_getElem_cons (by omega), List.drop_eq_getElem_cons (by omega), e1, e2]
  rfl
theorem fl_ext {f g f' g' : Nat → Int} : ∀ {n : Nat}, (∀ i, i < n → f i = f' i ∧ g i = g' i) → fl f g n = fl f' g' n
  | 0, _ => rfl
  | n + 1, h => by
    unfold fl
    rw [fl_ext fun i hi => h i (by omega), (h n (by omega)).1, (h n (by omega)).2]
def up (f : Nat → Int) (k : Nat) (a : Int) : Nat → Int := fun i => if i = k then a else f i
theorem fl_set (f g : Nat → Int) (a b : Int) : ∀ {n k : Nat}, k < n → (fl f g n).take (k * 2) ++ [a, b] ++ (fl f g n).drop (k * 2 + 2) = fl (up f k a) (up g k b) n
  | n + 1, k, h => by
    have hl := fl_len f g n
    conv => rhs; unfold fl
    conv => lhs; unfold fl
    by_cases e : k = n
    · subst e
      rw [List.take_append_of_le_length (by omega), List.take_of_length_le (by omega), List.drop_of_length_le (by simp; omega), List.append_nil]
      have : fl (up f k a) (up g k b) k = fl f g k := fl_ext fun i hi => by unfold up; rw [if_neg (by omega), if_neg (by omega)]; exact ⟨rfl, rfl⟩
      rw [this]
      unfold up
      simp
    · rw [List.take_append_of_le_length (by omega), List.drop_append_of_le_length (by omega), ← List.append_assoc, fl_set f g a b (by omega)]
      unfold up
      rw [if_neg (by omega), if_neg (by omega)]
theorem fl_lay (f g : Nat → Int) (a b : Int) {n k : Nat} (h : k < n) : lay (mapC AVal.i (fl f g n)) (k * 2) [.i a, .i b] = mapC AVal.i (fl (up f k a) (up g k b) n) := by
  unfold lay
  rw [← fl_set f g a b h]
  simp [mapC, List.map_take, List.map_drop]
theorem lay_pt (a b : Int) : lay (List.replicate 1 [AVal.i 0, AVal.i 0]).flatten 0 [.i a, .i b] = [.i a, .i b] := rfl
/-- turned round as far as k from both ends -/
def tu (f : Nat → Int) (n k : Nat) : Nat → Int := fun i => if i < k ∨ n ≤ i + k then f (n - 1 - i) else f i
theorem fl_tu {f g : Nat → Int} {n k : Nat} (h : k < n - 1 - k) : fl (up (up (tu f n k) k (tu f n k (n - 1 - k))) (n - 1 - k) (tu f n k k)) (up (up (tu g n k) k (tu g n k (n - 1 - k))) (n - 1 - k) (tu g n k k)) n = fl (tu f n (k + 1)) (tu g n (k + 1)) n := by
  have key : ∀ (f : Nat → Int) i, i < n → up (up (tu f n k) k (tu f n k (n - 1 - k))) (n - 1 - k) (tu f n k k) i = tu f n (k + 1) i := by
    intro f i hi
    unfold up tu
    by_cases c1 : i = n - 1 - k
    · rw [if_pos c1, if_neg (by omega), if_pos (by omega)]
      congr 1; omega
    · rw [if_neg c1]
      by_cases c2 : i = k
      · rw [if_pos c2, if_neg (by omega), if_pos (by omega)]
        congr 1; omega
      · rw [if_neg c2]
        by_cases c3 : i < k ∨ n ≤ i + k
        · rw [if_pos c3, if_pos (by omega)]
        · rw [if_neg c3, if_neg (by omega)]
  exact fl_ext fun i hi => ⟨key f i hi, key g i hi⟩
theorem fl_done {f g : Nat → Int} {n k : Nat} (h : n ≤ 2 * k + 1) (_ : 2 * k ≤ n) : fl (tu f n k) (tu g n k) n = fl (fun i => f (n - 1 - i)) (fun i => g (n - 1 - i)) n := by
  refine fl_ext fun i hi => ?_
  unfold tu
  by_cases c : i < k ∨ n ≤ i + k
  · rw [if_pos c, if_pos c]; exact ⟨rfl, rfl⟩
  · rw [if_neg c, if_neg c]
    have : n - 1 - i = i := by omega
    rw [this]
    exact ⟨rfl, rfl⟩
theorem one_0 : one [] = AVal.tup [] := rfl
theorem denx_reverseP (f g : Nat → Int) (n : Nat) (hb : n ≤ 1000000000000) : DenX Try.prog 29 [.ol 2 (mapC xi (fl f g n)) n] [.ol 2 (mapC xi (fl (fun i => f (n - 1 - i)) (fun i => g (n - 1 - i)) n)) n] (.tup []) := by
  refine denx_of_awp Try.func29 rfl (by kernel_rfl) (Nat.le_of_ble_eq_true rfl) (by simp +decide only [w_embA_nil, w_embA_cons, w_emb_v, w_emb_ol, w_emb_op, w_emb_agg, w_emb_tup, w_embL_nil, w_embL_cons, embL_i, List.map_cons, List.map_nil, List.nil_append, List.append_nil, List.cons_append, List.nodup_cons, List.nodup_nil, List.mem_cons, List.mem_nil_iff, List.not_mem_nil, ch_ch, ch_lit, lit_ch, Nat.reduceAdd]) mixed (by kernel_rfl) fun hl => ?_
  simp only [xlensL, xlens, lensL, lens, lensL_i, lensL_mapC, xlensL_i, maxI, and_true, true_and] at hl
  rw [Try.ntmps29]
  refine ex_start ?_
  have hw0 : IntKind.i64.wrap ((n : Int) - 1) = (n : Int) - 1 := wrap64 (by omega) (by omega)
  have hl0 := fl_len f g n
  simp (config := { maxSteps := 1000000 }) +decide only [NoH, Old, OldL, nilQ, nilA, RechL, ReY, isNew, stepO, XPost, postN, XOk, updN, updU, isEff, avalue, aeff, ASt.eval, ASt.put, ASt.set, ASt.new, Nat.reduceDiv, Nat.reduceAdd, Int.reduceToNat, absV, absC, scalar, alen, acap, conc, flats, live, blkOf, aload, rd, part?, afieldAddr, afield, aindexAddr, cellsOf, afill, places, abuild, optI, asliceV, asliceS, szOk, srcCells, aappend, astore, amakeSlice, abuildSlice, snapL, mapO, treeL, AVal.tree, AVal.flatT, isFlat, ares, isFz, afroz, afrozB, lookupA, lookupH, tops, if_true, if_false, reduceCtorEq, forall_const, ite_true, ite_false, implies_true, walkS, tabS, Try.results29, hw0, hl0]
  refine ex_loop (fun k : {k : Nat // 2 * k ≤ n} => mk [(0, .own 0 0 0 n), (2, .i k), (3, .i ((n : Int) - 1 - (k : Nat)))] [(0, ⟨0, 2, mapC AVal.i (fl (tu f n k) (tu g n k) n)⟩)] 1 28) (fun k => n - k) ⟨0, by omega⟩ ?_ ?_
  · have e : fl (tu f n 0) (tu g n 0) n = fl f g n := fl_ext fun i hi => by unfold tu; rw [if_neg (by omega), if_neg (by omega)]; exact ⟨rfl, rfl⟩
    refine weak_mk rfl (by first | exact Nat.le_refl _ | (simp only [mk_gen]; omega)) ?_ ?_ <;> simp +decide only [w_lookup_nil, w_lookup_cons, ch_ch, ch_lit, lit_ch, wkT, wkH, wkB, WVL, WV_refl', Int.natCast_zero, Int.natCast_add, Int.natCast_one, Nat.sub_self, Nat.sub_zero, List.replicate_zero, List.take_zero, List.nil_append, List.append_nil, fillC_zero, Nat.reduceDiv, Nat.reduceAdd, upd_bk, bk_at, getB_zero, getB_succ, modB_zero, modB_succ, rows_lit, repB_zero, repB_succ, List.length_cons, List.length_nil, upd_upd_same, upd_apply, mk_tmp, mk_heap, mk_gen, lookupA, lookupH, List.getD_cons_zero, List.getD_cons_succ, init_two, tops, Bool.true_and, and_self, and_true, true_and, true_or, if_true, if_false, ite_true, ite_false, reduceCtorEq, reduceIte, e, Int.sub_zero]
  · rintro ⟨k, hk⟩
    have hk' : 2 * k ≤ n := hk
    have hcl := fl_len (tu f n k) (tu g n k) n
    by_cases hlt : (k : Int) < (n : Int) - 1 - (k : Int)
    · have e1 : (n : Int) - 1 - (k : Int) = ((n - 1 - k : Nat) : Int) := by omega
      have hw : IntKind.i64.wrap ((k : Int) + 1) = ((k + 1 : Nat) : Int) := wrap64 (by omega) (by omega)
      have hw1 : IntKind.i64.wrap (((n - 1 - k : Nat) : Int) - 1) = (n : Int) - 1 - ((k + 1 : Nat) : Int) := (wrap64 (by omega) (by omega)).trans (by omega)
      have h1 : k < n := by omega
      have h2 : n - 1 - k < n := by omega
      have hne : k < n - 1 - k := by omega
      have c1 : k * 2 + 2 ≤ n * 2 := by omega
      have c2 : (n - 1 - k) * 2 + 2 ≤ n * 2 := by omega
      have l1 := fl_ld (tu f n k) (tu g n k) h1
      have l2 := fl_ld (tu f n k) (tu g n k) h2
      simp (config := { maxSteps := 1000000 }) +decide only [NoH, Old, OldL, nilQ, nilA, RechL, ReY, isNew, stepO, XPost, postN, XOk, updN, updU, isEff, avalue, aeff, ASt.eval, ASt.put, ASt.set, ASt.new, Nat.reduceDiv, Nat.reduceAdd, Int.reduceToNat, absV, absC, scalar, alen, acap, conc, flats, live, blkOf, aload, rd, part?, afieldAddr, afield, aindexAddr, cellsOf, afill, places, abuild, optI, asliceV, asliceS, szOk, srcCells, aappend, astore, amakeSlice, abuildSlice, snapL, mapO, treeL, AVal.tree, AVal.flatT, isFlat, ares, isFz, afroz, afrozB, lookupA, lookupH, tops, if_true, if_false, reduceCtorEq, forall_const, ite_true, ite_false, implies_true, walkS, tabS, Try.results29, hw, hw1, hcl, e1, h1, h2, hne, c1, c2, l1, l2, fl_len, fl_lay, fl_ld]
      refine ⟨⟨k + 1, by omega⟩, ?_, ?_⟩
      · refine weak_mk rfl (by first | exact Nat.le_refl _ | (simp only [mk_gen]; omega)) ?_ ?_ <;> simp +decide only [w_lookup_nil, w_lookup_cons, ch_ch, ch_lit, lit_ch, wkT, wkH, wkB, WVL, WV_refl', Int.natCast_zero, Int.natCast_add, Int.natCast_one, Nat.sub_self, Nat.sub_zero, List.replicate_zero, List.take_zero, List.nil_append, List.append_nil, fillC_zero, Nat.reduceDiv, Nat.reduceAdd, upd_bk, bk_at, getB_zero, getB_succ, modB_zero, modB_succ, rows_lit, repB_zero, repB_succ, List.length_cons, List.length_nil, upd_upd_same, upd_apply, mk_tmp, mk_heap, mk_gen, lookupA, lookupH, List.getD_cons_zero, List.getD_cons_succ, init_two, tops, Bool.true_and, and_self, and_true, true_and, true_or, if_true, if_false, ite_true, ite_false, reduceCtorEq, reduceIte, fl_tu hne]
      · show _ - (k + 1) < _ - k
        omega
    · have e := @fl_done f g n k (by omega) hk'
      have hcr := fl_len (fun i => f (n - 1 - i)) (fun i => g (n - 1 - i)) n
      have ht : (fl (fun i => f (n - 1 - i)) (fun i => g (n - 1 - i)) n).take (n * 2) = fl (fun i => f (n - 1 - i)) (fun i => g (n - 1 - i)) n := List.take_of_length_le (by omega)
      simp (config := { maxSteps := 1000000 }) +decide only [NoH, Old, OldL, nilQ, nilA, RechL, ReY, isNew, stepO, XPost, postN, XOk, updN, updU, isEff, avalue, aeff, ASt.eval, ASt.put, ASt.set, ASt.new, Nat.reduceDiv, Nat.reduceAdd, Int.reduceToNat, absV, absC, scalar, alen, acap, conc, flats, live, blkOf, aload, rd, part?, afieldAddr, afield, aindexAddr, cellsOf, afill, places, abuild, optI, asliceV, asliceS, szOk, srcCells, aappend, astore, amakeSlice, abuildSlice, snapL, mapO, treeL, AVal.tree, AVal.flatT, isFlat, ares, isFz, afroz, afrozB, lookupA, lookupH, tops, if_true, if_false, reduceCtorEq, forall_const, ite_true, ite_false, implies_true, walkS, tabS, Try.results29, eq_false hlt, e, hcr, ht, one_0, Nat.zero_mul]
end Go.Proofs.Ytngghngfgpiomaa
