/-
  OWN WORK: numbers repeated; rows that are valid; servers.
-/
import Derived.Test.YtagomliggjndeaaDoorItB
import Derived.Test.YtagomliggjndeaaDoorLam
namespace Go.Proofs.YtagomliggjndeaaDoor
open Go Go.Own Go.Proofs Go.RowKit
set_option maxHeartbeats 4000000
set_option maxRecDepth 20000
set_option linter.unusedSimpArgs false
set_option linter.unusedVariables false
theorem den_Mul (x y : Nat) (hx : x < 18446744073709551616) (hy : y < 18446744073709551616) (h : x * y < 18446744073709551616) : Den Tryd.prog 60 [.u64 x, .u64 y] (.tup [.u64 0, .u64 ((x * y : Nat) : Int)]) := by
  refine ⟨⟨_, Tryd.func60, by kernel_rfl, by kernel_rfl⟩, rfl, fun w vs ok hok hg hr => ?_⟩
  obtain ⟨v, r, rfl, hv, v2, r2, rfl, hv2, rfl⟩ := hr
  have e1 : v = .int .u64 x := hv.2
  have e2 : v2 = .int .u64 y := hv2.2
  subst e1 e2
  refine Calls.mono (Any.bits_Mul Tryd.mul x y hx hy w) ?_
  rw [Nat.div_eq_of_lt h, Nat.mod_eq_of_lt h]
  rintro e w' ⟨rfl, rfl⟩
  exact ⟨_, rfl, ⟨_, rfl, _, _, rfl, ⟨rfl, rfl⟩, _, _, rfl, ⟨rfl, rfl⟩, rfl⟩, Below.refl _ _⟩
/-- a row that is filled from its head with one number -/
def rpC (v : Int) (n t : Nat) : List Int := List.replicate t v ++ List.replicate (n - t) 0
theorem rpC_len {v : Int} {n t : Nat} (h : t ≤ n) : (rpC v n t).length = n := by simp [rpC]; omega
theorem rpC_0 (v : Int) (n : Nat) : rpC v n 0 = List.replicate n 0 := by simp [rpC]
theorem rpC_n (v : Int) (n : Nat) : rpC v n n = List.replicate n v := by simp [rpC]
theorem rpC_put {v : Int} {n t m : Nat} (h : t + m ≤ n) : lay (mapC AVal.i (rpC v n t)) t (mapC AVal.i (List.replicate m v)) = mapC AVal.i (rpC v n (t + m)) := by
  unfold lay mapC rpC
  rw [← List.map_take, ← List.map_drop, ← List.map_append, ← List.map_append, List.length_map, List.length_replicate]
  congr 1
  rw [List.take_left' (by simp), List.drop_append, List.drop_of_length_le (by simp <;> omega), List.nil_append, List.length_replicate, show t + m - t = m by omega, List.drop_replicate, show n - t - m = n - (t + m) by omega, List.replicate_append_replicate]
theorem rpC_src {v : Int} {n t m : Nat} (h : m ≤ t) : List.take m (List.take t (rpC v n t)) = List.replicate m v := by
  unfold rpC
  rw [List.take_take, Nat.min_eq_left h, List.take_append_of_le_length (by simp <;> omega), List.take_replicate, Nat.min_eq_left h]
theorem wrapU0 {n : Int} (h0 : 0 ≤ n) (h1 : n ≤ 9223372036854775807) : IntKind.u64.wrap n = n := by
  simp [IntKind.wrap, IntKind.bits, IntKind.signed]
  omega
theorem denx_Repeat (v : Int) (n : Nat) (h1 : 1 ≤ n) (h2 : n ≤ 1000000) : DenX Tryd.prog 47 [.v (ints [v]), xi n] [.v (ints [v]), xi n] (xints (List.replicate n v)) := by
  refine denx_of_awp Tryd.func47 rfl (by kernel_rfl) (Nat.le_of_ble_eq_true rfl) (by simp +decide only [w_embA_nil, w_embA_cons, w_emb_v, w_emb_ol, w_emb_op, w_emb_agg, w_emb_tup, w_embL_nil, w_embL_cons, embL_i, List.map_cons, List.map_nil, List.nil_append, List.append_nil, List.cons_append, List.nodup_cons, List.nodup_nil, List.mem_cons, List.mem_nil_iff, List.not_mem_nil, ch_ch, ch_lit, lit_ch, Nat.reduceAdd]) mixed (by kernel_rfl) fun hl => ?_
  simp only [xlensL, xlens, lensL, lens, lensL_i, lensL_mapC, xlensL_i, maxI, and_true, true_and] at hl
  rw [Tryd.ntmps47]
  refine ex_start ?_
  have c0 : ¬ (n : Int) < 0 := by omega
  have wu : IntKind.u64.wrap (n : Int) = (n : Int) := wrapU0 (by omega) (by omega)
  have w1 : IntKind.u64.wrap (1 : Int) = 1 := wrapU0 (by omega) (by omega)
  have wn : IntKind.i64.wrap (n : Int) = (n : Int) := wrap64 (by omega) (by omega)
  have cv1 : ∀ a : Int, semS Tryd.prog (convert 3 76 (.int .i64 a)) = some (.flat (.int .u64 (IntKind.u64.wrap a))) := fun a => by rfl
  have cv2 : ∀ a : Int, semS Tryd.prog (convert 76 3 (.int .u64 a)) = some (.flat (.int .i64 (IntKind.i64.wrap a))) := fun a => by rfl
  have dm : Den Tryd.prog 60 [.u64 1, .u64 n] (.tup [.u64 0, .u64 n]) := by
    have := den_Mul 1 n (by omega) (by omega) (by omega)
    rw [Nat.one_mul] at this
    exact this
  have c1 : ¬ (9223372036854775807 : Int) < (n : Int) := by omega
  have h8 : (n : Int) * ((8 : Nat) : Int) ≤ 281474976710656 := by omega
  have h63 : (n : Int) ≤ 9223372036854775807 := by omega
  have hn0 : (0 : Int) ≤ (n : Int) := by omega
  have m1 : min 1 n = 1 := by omega
  have l1 : ([v] : List Int).length = 1 := rfl
  have e1 : lay (mapC AVal.i (List.replicate n 0)) 0 (mapC AVal.i [v]) = mapC AVal.i (rpC v n 1) := by
    have := rpC_put (v := v) (n := n) (t := 0) (m := 1) (by omega)
    rw [rpC_0, Nat.zero_add] at this
    exact this
  simp (config := { maxSteps := 1000000 }) +decide only [NoH, Old, OldL, nilQ, nilA, asgn, nz, RechL, ReY, isNew, stepO, XPost, postN, XOk, updN, updU, isEff, avalue, aeff, ASt.eval, ASt.put, ASt.set, ASt.new, Nat.reduceDiv, Nat.reduceAdd, Int.reduceToNat, absV, absC, scalar, alen, acap, conc, flats, live, blkOf, aload, rd, part?, afieldAddr, afield, aindexAddr, cellsOf, afill, places, abuild, optI, asliceV, asliceS, szOk, srcCells, aappend, acopy, astore, amakeSlice, abuildSlice, snapL, mapO, treeL, AVal.tree, AVal.flatT, isFlat, ares, isFz, afroz, afrozB, lookupA, lookupH, tops, if_true, if_false, reduceCtorEq, forall_const, ite_true, ite_false, implies_true, walkS, tabS, Tryd.results47, eq_false c0, cv1, wu, w1]
  refine callK (dm) (by first | exact .inl rfl | exact .inr rfl) ?_
  simp (config := { maxSteps := 1000000 }) +decide only [NoH, Old, OldL, nilQ, nilA, asgn, nz, RechL, ReY, isNew, stepO, XPost, postN, XOk, updN, updU, isEff, avalue, aeff, ASt.eval, ASt.put, ASt.set, ASt.new, Nat.reduceDiv, Nat.reduceAdd, Int.reduceToNat, absV, absC, scalar, alen, acap, conc, flats, live, blkOf, aload, rd, part?, afieldAddr, afield, aindexAddr, cellsOf, afill, places, abuild, optI, asliceV, asliceS, szOk, srcCells, aappend, acopy, astore, amakeSlice, abuildSlice, snapL, mapO, treeL, AVal.tree, AVal.flatT, isFlat, ares, isFz, afroz, afrozB, lookupA, lookupH, tops, if_true, if_false, reduceCtorEq, forall_const, ite_true, ite_false, implies_true, walkS, tabS, Tryd.results47, eq_false c1, cv2, wn, eq_true h8, eq_true h63, hn0, flatten1, rep_i, m1, List.length_replicate]
  refine ex_loop (fun t : {t : Nat // 1 ≤ t ∧ t ≤ n} => mk [(7, .own 30 1 0 n), (8, .i t.1)] [(30, ⟨1, 1, mapC AVal.i (rpC v n t.1)⟩)] 2 48) (fun t => n - t.1) ⟨1, by omega, h1⟩ ?_ ?_
  · refine weak_mk rfl (by first | exact Nat.le_refl _ | (simp only [mk_gen]; omega)) ?_ ?_ <;> simp +decide only [w_lookup_nil, w_lookup_cons, ch_ch, ch_lit, lit_ch, wkT, wkH, wkB, WVL, WV_refl', Int.natCast_zero, Int.natCast_add, Int.natCast_one, Nat.sub_self, Nat.sub_zero, List.replicate_zero, List.take_zero, List.nil_append, List.append_nil, fillC_zero, Nat.reduceDiv, Nat.reduceAdd, upd_bk, bk_at, getB_zero, getB_succ, modB_zero, modB_succ, rows_lit, repB_zero, repB_succ, List.length_cons, List.length_nil, upd_upd_same, upd_apply, mk_tmp, mk_heap, mk_gen, lookupA, lookupH, List.getD_cons_zero, List.getD_cons_succ, init_two, tops, Bool.true_and, and_self, and_true, true_and, true_or, if_true, if_false, ite_true, ite_false, reduceCtorEq, reduceIte]
    exact .inl e1.symm
  rintro ⟨t, ht1, ht2⟩
  have ht2' : t ≤ n := ht2
  have ln := rpC_len (v := v) ht2'
  by_cases hlt : t < n
  · have hltI : (t : Int) < (n : Int) := by omega
    have k1 : min t (n - t) ≤ t := Nat.min_le_left _ _
    have k2 : t + min t (n - t) ≤ n := by omega
    have k3 : 1 ≤ min t (n - t) := by omega
    have e2 := rpC_src (v := v) (n := n) k1
    have e3 := rpC_put (v := v) k2
    have q1 : t + (n - t) ≤ n := by omega
    have wt : IntKind.i64.wrap ((t : Int) + ((min t (n - t) : Nat) : Int)) = ((t + min t (n - t) : Nat) : Int) := wrap64 (by omega) (by omega)
    obtain ⟨m, hm⟩ : ∃ m, min t (n - t) = m := ⟨_, rfl⟩
    rw [hm] at k1 k2 k3 e2 e3 wt
    simp (config := { maxSteps := 1000000 }) +decide only [NoH, Old, OldL, nilQ, nilA, asgn, nz, RechL, ReY, isNew, stepO, XPost, postN, XOk, updN, updU, isEff, avalue, aeff, ASt.eval, ASt.put, ASt.set, ASt.new, Nat.reduceDiv, Nat.reduceAdd, Int.reduceToNat, absV, absC, scalar, alen, acap, conc, flats, live, blkOf, aload, rd, part?, afieldAddr, afield, aindexAddr, cellsOf, afill, places, abuild, optI, asliceV, asliceS, szOk, srcCells, aappend, acopy, astore, amakeSlice, abuildSlice, snapL, mapO, treeL, AVal.tree, AVal.flatT, isFlat, ares, isFz, afroz, afrozB, lookupA, lookupH, tops, if_true, if_false, reduceCtorEq, forall_const, ite_true, ite_false, implies_true, walkS, tabS, Tryd.results47, eq_true hltI, hlt, eq_true ht2', ln, eq_true q1, hm, e2, e3, wt, Nat.zero_le]
    refine ⟨⟨t + m, by omega, k2⟩, ?_, by show n - (t + m) < n - t; omega⟩
    refine weak_mk rfl (by first | exact Nat.le_refl _ | (simp only [mk_gen]; omega)) ?_ ?_ <;> simp +decide only [w_lookup_nil, w_lookup_cons, ch_ch, ch_lit, lit_ch, wkT, wkH, wkB, WVL, WV_refl', Int.natCast_zero, Int.natCast_add, Int.natCast_one, Nat.sub_self, Nat.sub_zero, List.replicate_zero, List.take_zero, List.nil_append, List.append_nil, fillC_zero, Nat.reduceDiv, Nat.reduceAdd, upd_bk, bk_at, getB_zero, getB_succ, modB_zero, modB_succ, rows_lit, repB_zero, repB_succ, List.length_cons, List.length_nil, upd_upd_same, upd_apply, mk_tmp, mk_heap, mk_gen, lookupA, lookupH, List.getD_cons_zero, List.getD_cons_succ, init_two, tops, Bool.true_and, and_self, and_true, true_and, true_or, if_true, if_false, ite_true, ite_false, reduceCtorEq, reduceIte]
  have e : t = n := by omega
  subst e
  have hltI : ¬ (t : Int) < (t : Int) := by omega
  have tc : List.take t (List.replicate t v) = List.replicate t v := List.take_of_length_le (by simp)
  simp (config := { maxSteps := 1000000 }) +decide only [NoH, Old, OldL, nilQ, nilA, asgn, nz, RechL, ReY, isNew, stepO, XPost, postN, XOk, updN, updU, isEff, avalue, aeff, ASt.eval, ASt.put, ASt.set, ASt.new, Nat.reduceDiv, Nat.reduceAdd, Int.reduceToNat, absV, absC, scalar, alen, acap, conc, flats, live, blkOf, aload, rd, part?, afieldAddr, afield, aindexAddr, cellsOf, afill, places, abuild, optI, asliceV, asliceS, szOk, srcCells, aappend, acopy, astore, amakeSlice, abuildSlice, snapL, mapO, treeL, AVal.tree, AVal.flatT, isFlat, ares, isFz, afroz, afrozB, lookupA, lookupH, tops, if_true, if_false, reduceCtorEq, forall_const, ite_true, ite_false, implies_true, walkS, tabS, Tryd.results47, eq_false hltI, rpC_n, tc]
/-- the strongest one -/
noncomputable def sv (row : List Int) : Nat := (idx (fun y => mostOf (row.getD 0 0) row = y) row).toNat
theorem sv_is {row : List Int} (h : 0 < row.length) : sv row < row.length ∧ (∀ x ∈ row, x ≤ row.getD (sv row) 0) ∧ idx (fun y => mostOf row[0] row = y) row = sv row := by
  have e0 : row.getD 0 0 = row[0] := gD h
  have hm : mostOf row[0] row ∈ row := by
    rcases mostOf_in row row[0] with e | e
    · rw [e]; exact List.getElem_mem h
    · exact e
  have hg := (mostOf_ge row row[0]).2
  unfold sv
  rw [e0]
  obtain ⟨k, hk, ek⟩ := List.getElem_of_mem hm
  obtain ⟨j, hj, e1, e2⟩ : ∃ j, ∃ hj : j < row.length, row[j] = mostOf row[0] row ∧ ∀ i (h : i < row.length), i < j → ¬ mostOf row[0] row = row[i] := by
    have key : ∀ n, n ≤ row.length → (∃ j, ∃ hj : j < row.length, j < n ∧ row[j] = mostOf row[0] row ∧ ∀ i (h : i < row.length), i < j → ¬ mostOf row[0] row = row[i]) ∨ ∀ i (h : i < row.length), i < n → ¬ mostOf row[0] row = row[i] := by
      intro n
      induction n with
      | zero => exact fun _ => .inr fun i _ hi => absurd hi (Nat.not_lt_zero _)
      | succ n ih =>
        intro hn
        rcases ih (by omega) with ⟨j, hj, a, b⟩ | q
        · exact .inl ⟨j, hj, by omega, b⟩
        · by_cases c : row[n]'(by omega) = mostOf row[0] row
          · exact .inl ⟨n, by omega, by omega, c, q⟩
          · refine .inr fun i hi hin => ?_
            by_cases e : i = n
            · subst e; exact fun h => c h.symm
            · exact q i hi (by omega)
    rcases key row.length (Nat.le_refl _) with ⟨j, hj, _, b, c⟩ | q
    · exact ⟨j, hj, b, c⟩
    · exact absurd ek.symm (q k hk hk)
  have ei := idx_some (p := fun y => mostOf row[0] row = y) hj e2 e1.symm
  rw [ei]
  simp only [Int.toNat_natCast]
  refine ⟨hj, fun x hx => ?_, trivial⟩
  rw [gD hj, e1]
  exact hg x hx
theorem den_serverOf {row : List Int} (h : 0 < row.length) : Den Tryd.prog 31 [ints row] (.i (sv row)) := by
  refine den_of_awp Tryd.func31 rfl (by kernel_rfl) (Nat.le_of_ble_eq_true rfl) (by simp only [treeL, AVal.tree, treeL_i, treeL_ints, treeL_u8, treeL_append, Bool.and_self, Bool.and_true, Bool.true_and]) (by first | rfl | simp only [treeL, AVal.tree, treeL_i, treeL_ints, treeL_u8, treeL_append, Bool.and_self, Bool.and_true, Bool.true_and]) mixed (by kernel_rfl) fun hl => ?_
  simp only [lensL, lens, lensL_i, lensL_mapC, maxI, and_true, true_and] at hl
  rw [Tryd.ntmps31]
  refine ex_start ?_
  have e := (sv_is h).2.2
  simp (config := { maxSteps := 1000000 }) +decide only [NoH, Old, OldL, nilQ, nilA, asgn, nz, RechL, ReY, isNew, stepO, XPost, postN, XOk, updN, updU, isEff, avalue, aeff, ASt.eval, ASt.put, ASt.set, ASt.new, Nat.reduceDiv, Nat.reduceAdd, Int.reduceToNat, absV, absC, scalar, alen, acap, conc, flats, live, blkOf, aload, rd, part?, afieldAddr, afield, aindexAddr, cellsOf, afill, places, abuild, optI, asliceV, asliceS, szOk, srcCells, aappend, acopy, astore, amakeSlice, abuildSlice, snapL, mapO, treeL, AVal.tree, AVal.flatT, isFlat, ares, isFz, afroz, afrozB, lookupA, lookupH, tops, if_true, if_false, reduceCtorEq, forall_const, ite_true, ite_false, implies_true, walkS, tabS, Tryd.results31]
  refine callK (den_Max row h) (by first | exact .inl rfl | exact .inr rfl) ?_
  simp (config := { maxSteps := 1000000 }) +decide only [NoH, Old, OldL, nilQ, nilA, asgn, nz, RechL, ReY, isNew, stepO, XPost, postN, XOk, updN, updU, isEff, avalue, aeff, ASt.eval, ASt.put, ASt.set, ASt.new, Nat.reduceDiv, Nat.reduceAdd, Int.reduceToNat, absV, absC, scalar, alen, acap, conc, flats, live, blkOf, aload, rd, part?, afieldAddr, afield, aindexAddr, cellsOf, afill, places, abuild, optI, asliceV, asliceS, szOk, srcCells, aappend, acopy, astore, amakeSlice, abuildSlice, snapL, mapO, treeL, AVal.tree, AVal.flatT, isFlat, ares, isFz, afroz, afrozB, lookupA, lookupH, tops, if_true, if_false, reduceCtorEq, forall_const, ite_true, ite_false, implies_true, walkS, tabS, Tryd.results31]
  refine callK (den_Index row (mostOf row[0] row)) (by first | exact .inl rfl | exact .inr rfl) ?_
  simp (config := { maxSteps := 1000000 }) +decide only [NoH, Old, OldL, nilQ, nilA, asgn, nz, RechL, ReY, isNew, stepO, XPost, postN, XOk, updN, updU, isEff, avalue, aeff, ASt.eval, ASt.put, ASt.set, ASt.new, Nat.reduceDiv, Nat.reduceAdd, Int.reduceToNat, absV, absC, scalar, alen, acap, conc, flats, live, blkOf, aload, rd, part?, afieldAddr, afield, aindexAddr, cellsOf, afill, places, abuild, optI, asliceV, asliceS, szOk, srcCells, aappend, acopy, astore, amakeSlice, abuildSlice, snapL, mapO, treeL, AVal.tree, AVal.flatT, isFlat, ares, isFz, afroz, afrozB, lookupA, lookupH, tops, if_true, if_false, reduceCtorEq, forall_const, ite_true, ite_false, implies_true, walkS, tabS, Tryd.results31, e]
theorem den_IndexRowsC (xss : List (List Int)) (f : FuncId) (cs : List AVal) (p : List Int → Prop) (hcs : treeL cs = true) (hp : ∀ x ∈ xss, Den Tryd.prog f ([ints x] ++ cs) (.b (bp (p x)))) (hs : ∀ s, snapL s cs = some cs) :
    Den Tryd.prog 41 [intss xss, .clo f cs] (.i (idx p xss)) := by
  refine den_of_awp Tryd.func41 rfl (by kernel_rfl) (Nat.le_of_ble_eq_true rfl) (by simp only [treeL, AVal.tree, treeL_i, treeL_ints, hcs, Bool.and_self, Bool.and_true]) rfl mixed (by kernel_rfl) fun hl => ?_
  simp only [lensL, lens, lensL_i, lensL_mapC, maxI, and_true, true_and] at hl
  rw [Tryd.ntmps41]
  refine ex_start ?_
  simp (config := { maxSteps := 1000000 }) +decide only [NoH, Old, OldL, nilQ, nilA, asgn, nz, RechL, ReY, isNew, stepO, XPost, postN, XOk, updN, updU, isEff, avalue, aeff, ASt.eval, ASt.put, ASt.set, ASt.new, Nat.reduceDiv, Nat.reduceAdd, Int.reduceToNat, absV, absC, scalar, alen, acap, conc, flats, live, blkOf, aload, rd, part?, afieldAddr, afield, aindexAddr, cellsOf, afill, places, abuild, optI, asliceV, asliceS, szOk, srcCells, aappend, acopy, astore, amakeSlice, abuildSlice, snapL, mapO, treeL, AVal.tree, AVal.flatT, isFlat, ares, isFz, afroz, afrozB, lookupA, lookupH, tops, if_true, if_false, reduceCtorEq, forall_const, ite_true, ite_false, implies_true, walkS, tabS, Tryd.results41]
  refine ex_loop (fun k : {k : Nat // k ≤ xss.length ∧ ∀ i (h : i < xss.length), i < k → ¬ p xss[i]} => mk [(0, intss xss), (1, .clo f cs), (7, .i xss.length), (8, .i k)] [] 0 19) (fun k => xss.length - k) ⟨0, by simp⟩ ?_ ?_
  · refine weak_mk rfl (by first | exact Nat.le_refl _ | (simp only [mk_gen]; omega)) ?_ ?_ <;> simp +decide only [w_lookup_nil, w_lookup_cons, ch_ch, ch_lit, lit_ch, wkT, wkH, wkB, WVL, WV_refl', Int.natCast_zero, Int.natCast_add, Int.natCast_one, Nat.sub_self, Nat.sub_zero, List.replicate_zero, List.take_zero, List.nil_append, List.append_nil, fillC_zero, Nat.reduceDiv, Nat.reduceAdd, upd_bk, bk_at, getB_zero, getB_succ, modB_zero, modB_succ, rows_lit, repB_zero, repB_succ, List.length_cons, List.length_nil, upd_upd_same, upd_apply, mk_tmp, mk_heap, mk_gen, lookupA, lookupH, List.getD_cons_zero, List.getD_cons_succ, init_two, tops, Bool.true_and, and_self, and_true, true_and, true_or, if_true, if_false, ite_true, ite_false, reduceCtorEq, reduceIte]
  · rintro ⟨k, hk, hkk⟩
    by_cases hlt : k < xss.length
    · have hw : IntKind.i64.wrap ((k : Int) + 1) = ((k + 1 : Nat) : Int) := wrap64 (by omega) (by omega)
      simp (config := { maxSteps := 1000000 }) +decide only [NoH, Old, OldL, nilQ, nilA, asgn, nz, RechL, ReY, isNew, stepO, XPost, postN, XOk, updN, updU, isEff, avalue, aeff, ASt.eval, ASt.put, ASt.set, ASt.new, Nat.reduceDiv, Nat.reduceAdd, Int.reduceToNat, absV, absC, scalar, alen, acap, conc, flats, live, blkOf, aload, rd, part?, afieldAddr, afield, aindexAddr, cellsOf, afill, places, abuild, optI, asliceV, asliceS, szOk, srcCells, aappend, acopy, astore, amakeSlice, abuildSlice, snapL, mapO, treeL, AVal.tree, AVal.flatT, isFlat, ares, isFz, afroz, afrozB, lookupA, lookupH, tops, if_true, if_false, reduceCtorEq, forall_const, ite_true, ite_false, implies_true, walkS, tabS, Tryd.results41, hw, hlt, hs, hcs, List.cons_append]
      refine callK (hp _ (List.getElem_mem hlt)) (by first | exact .inl rfl | exact .inr rfl) ?_
      simp (config := { maxSteps := 1000000 }) +decide only [NoH, Old, OldL, nilQ, nilA, asgn, nz, RechL, ReY, isNew, stepO, XPost, postN, XOk, updN, updU, isEff, avalue, aeff, ASt.eval, ASt.put, ASt.set, ASt.new, Nat.reduceDiv, Nat.reduceAdd, Int.reduceToNat, absV, absC, scalar, alen, acap, conc, flats, live, blkOf, aload, rd, part?, afieldAddr, afield, aindexAddr, cellsOf, afill, places, abuild, optI, asliceV, asliceS, szOk, srcCells, aappend, acopy, astore, amakeSlice, abuildSlice, snapL, mapO, treeL, AVal.tree, AVal.flatT, isFlat, ares, isFz, afroz, afrozB, lookupA, lookupH, tops, if_true, if_false, reduceCtorEq, forall_const, ite_true, ite_false, implies_true, walkS, tabS, Tryd.results41, hw, hlt]
      refine ⟨fun h => (idx_some hlt hkk h).symm, fun h => ⟨⟨k + 1, hlt, ?_⟩, ?_, ?_⟩⟩
      · intro i hi hik
        by_cases e : i = k
        · subst e; exact h
        · exact hkk i hi (by omega)
      · refine weak_mk rfl (by first | exact Nat.le_refl _ | (simp only [mk_gen]; omega)) ?_ ?_ <;> simp +decide only [w_lookup_nil, w_lookup_cons, ch_ch, ch_lit, lit_ch, wkT, wkH, wkB, WVL, WV_refl', Int.natCast_zero, Int.natCast_add, Int.natCast_one, Nat.sub_self, Nat.sub_zero, List.replicate_zero, List.take_zero, List.nil_append, List.append_nil, fillC_zero, Nat.reduceDiv, Nat.reduceAdd, upd_bk, bk_at, getB_zero, getB_succ, modB_zero, modB_succ, rows_lit, repB_zero, repB_succ, List.length_cons, List.length_nil, upd_upd_same, upd_apply, mk_tmp, mk_heap, mk_gen, lookupA, lookupH, List.getD_cons_zero, List.getD_cons_succ, init_two, tops, Bool.true_and, and_self, and_true, true_and, true_or, if_true, if_false, ite_true, ite_false, reduceCtorEq, reduceIte]
      · show _ - (k + 1) < _ - k
        omega
    · simp (config := { maxSteps := 1000000 }) +decide only [NoH, Old, OldL, nilQ, nilA, asgn, nz, RechL, ReY, isNew, stepO, XPost, postN, XOk, updN, updU, isEff, avalue, aeff, ASt.eval, ASt.put, ASt.set, ASt.new, Nat.reduceDiv, Nat.reduceAdd, Int.reduceToNat, absV, absC, scalar, alen, acap, conc, flats, live, blkOf, aload, rd, part?, afieldAddr, afield, aindexAddr, cellsOf, afill, places, abuild, optI, asliceV, asliceS, szOk, srcCells, aappend, acopy, astore, amakeSlice, abuildSlice, snapL, mapO, treeL, AVal.tree, AVal.flatT, isFlat, ares, isFz, afroz, afrozB, lookupA, lookupH, tops, if_true, if_false, reduceCtorEq, forall_const, ite_true, ite_false, implies_true, walkS, tabS, Tryd.results41, hlt]
      exact (idx_none fun i hi => hkk i hi (by omega)).symm
theorem den_ContainsRowsC (xss : List (List Int)) (f : FuncId) (cs : List AVal) (p : List Int → Prop) (hcs : treeL cs = true) (hp : ∀ x ∈ xss, Den Tryd.prog f ([ints x] ++ cs) (.b (bp (p x)))) (hs : ∀ s, snapL s cs = some cs) (hm : ∀ s, mapO (snap 5 s) cs = some cs) :
    Den Tryd.prog 21 [intss xss, .clo f cs] (.b (bp (∃ x ∈ xss, p x))) := by
  refine den_of_awp Tryd.func21 rfl (by kernel_rfl) (Nat.le_of_ble_eq_true rfl) (by simp only [treeL, AVal.tree, treeL_i, treeL_ints, hcs, Bool.and_self, Bool.and_true]) rfl mixed (by kernel_rfl) fun hl => ?_
  simp only [lensL, lens, lensL_i, lensL_mapC, maxI, and_true, true_and] at hl
  rw [Tryd.ntmps21]
  refine ex_start ?_
  simp (config := { maxSteps := 1000000 }) +decide only [NoH, Old, OldL, nilQ, nilA, asgn, nz, RechL, ReY, isNew, stepO, XPost, postN, XOk, updN, updU, isEff, avalue, aeff, ASt.eval, ASt.put, ASt.set, ASt.new, Nat.reduceDiv, Nat.reduceAdd, Int.reduceToNat, absV, absC, scalar, alen, acap, conc, flats, live, blkOf, aload, rd, part?, afieldAddr, afield, aindexAddr, cellsOf, afill, places, abuild, optI, asliceV, asliceS, szOk, srcCells, aappend, acopy, astore, amakeSlice, abuildSlice, snapL, mapO, treeL, AVal.tree, AVal.flatT, isFlat, ares, isFz, afroz, afrozB, lookupA, lookupH, tops, if_true, if_false, reduceCtorEq, forall_const, ite_true, ite_false, implies_true, walkS, tabS, Tryd.results21, hcs, hm]
  refine callK (den_IndexRowsC xss f cs p hcs hp hs) (by first | exact .inl rfl | exact .inr rfl) ?_
  simp (config := { maxSteps := 1000000 }) +decide only [NoH, Old, OldL, nilQ, nilA, asgn, nz, RechL, ReY, isNew, stepO, XPost, postN, XOk, updN, updU, isEff, avalue, aeff, ASt.eval, ASt.put, ASt.set, ASt.new, Nat.reduceDiv, Nat.reduceAdd, Int.reduceToNat, absV, absC, scalar, alen, acap, conc, flats, live, blkOf, aload, rd, part?, afieldAddr, afield, aindexAddr, cellsOf, afill, places, abuild, optI, asliceV, asliceS, szOk, srcCells, aappend, acopy, astore, amakeSlice, abuildSlice, snapL, mapO, treeL, AVal.tree, AVal.flatT, isFlat, ares, isFz, afroz, afrozB, lookupA, lookupH, tops, if_true, if_false, reduceCtorEq, forall_const, ite_true, ite_false, implies_true, walkS, tabS, Tryd.results21]
  rw [← bp_decide]
  exact bp_congr idx_nonneg
theorem den_vr1 {R : List (List Int)} {n : Nat} (h : RwOk R n) {r : List Int} (hr : r ∈ R) : Den Tryd.prog 38 [ints r, .iptr [intss R] 0] (.b (bp False)) := by
  refine den_of_awp Tryd.func38 rfl (by kernel_rfl) (Nat.le_of_ble_eq_true rfl) (by simp only [treeL, AVal.tree, treeL_i, treeL_ints, treeL_u8, treeL_append, Bool.and_self, Bool.and_true, Bool.true_and]) (by first | rfl | simp only [treeL, AVal.tree, treeL_i, treeL_ints, treeL_u8, treeL_append, Bool.and_self, Bool.and_true, Bool.true_and]) mixed (by kernel_rfl) fun hl => ?_
  simp only [lensL, lens, lensL_i, lensL_mapC, maxI, and_true, true_and] at hl
  rw [Tryd.ntmps38]
  refine ex_start ?_
  obtain ⟨i, hi, rfl⟩ := List.getElem_of_mem hr
  have hk := h.at hi
  have h0 : 0 < R.length := by have := h.r1; omega
  have h0I : (0 : Int) < (R.length : Int) := by omega
  have e1 := hk.len
  have e2 := (h.at h0).len
  have e3 : (R[i].length : Int) = (R[0].length : Int) := by omega
  have e4 : R[i].length = R[0].length := by omega
  simp (config := { maxSteps := 1000000 }) +decide only [NoH, Old, OldL, nilQ, nilA, asgn, nz, RechL, ReY, isNew, stepO, XPost, postN, XOk, updN, updU, isEff, avalue, aeff, ASt.eval, ASt.put, ASt.set, ASt.new, Nat.reduceDiv, Nat.reduceAdd, Int.reduceToNat, absV, absC, scalar, alen, acap, conc, flats, live, blkOf, aload, rd, part?, afieldAddr, afield, aindexAddr, cellsOf, afill, places, abuild, optI, asliceV, asliceS, szOk, srcCells, aappend, acopy, astore, amakeSlice, abuildSlice, snapL, mapO, treeL, AVal.tree, AVal.flatT, isFlat, ares, isFz, afroz, afrozB, lookupA, lookupH, tops, if_true, if_false, reduceCtorEq, forall_const, ite_true, ite_false, implies_true, walkS, tabS, Tryd.results38]
  refine callK (den_rowOk hk) (by first | exact .inl rfl | exact .inr rfl) ?_
  simp (config := { maxSteps := 1000000 }) +decide only [NoH, Old, OldL, nilQ, nilA, asgn, nz, RechL, ReY, isNew, stepO, XPost, postN, XOk, updN, updU, isEff, avalue, aeff, ASt.eval, ASt.put, ASt.set, ASt.new, Nat.reduceDiv, Nat.reduceAdd, Int.reduceToNat, absV, absC, scalar, alen, acap, conc, flats, live, blkOf, aload, rd, part?, afieldAddr, afield, aindexAddr, cellsOf, afill, places, abuild, optI, asliceV, asliceS, szOk, srcCells, aappend, acopy, astore, amakeSlice, abuildSlice, snapL, mapO, treeL, AVal.tree, AVal.flatT, isFlat, ares, isFz, afroz, afrozB, lookupA, lookupH, tops, if_true, if_false, reduceCtorEq, forall_const, ite_true, ite_false, implies_true, walkS, tabS, Tryd.results38, h0, h0I, e3, e4]
theorem den_ValidRows {R : List (List Int)} {n : Nat} (h : RwOk R n) : Den Tryd.prog 19 [intss R] (.b true) := by
  refine den_of_awpG (ghs [] [1]) Tryd.func19 rfl (by kernel_rfl) (Nat.le_of_ble_eq_true rfl) (by simp only [treeL, AVal.tree, treeL_i, treeL_ints, treeL_u8, treeL_append, Bool.and_self, Bool.and_true, Bool.true_and]) (by first | rfl | simp only [treeL, AVal.tree, treeL_i, treeL_ints, treeL_u8, treeL_append, Bool.and_self, Bool.and_true, Bool.true_and]) mixed (by kernel_rfl) fun hl => ?_
  simp only [lensL, lens, lensL_i, lensL_mapC, maxI, and_true, true_and] at hl
  rw [Tryd.ntmps19]
  refine ex_start ?_
  have h1 := h.r1
  have h5 := h.r5
  have c1 : ¬ (R.length : Int) < 1 := by omega
  have c2 : ¬ (32 : Int) < (R.length : Int) := by omega
  simp (config := { maxSteps := 1000000 }) +decide only [NoH, Old, OldL, nilQ, nilA, asgn, nz, RechL, ReY, isNew, stepO, XPost, postN, XOk, updN, updU, isEff, avalue, aeff, ASt.eval, ASt.put, ASt.set, ASt.new, Nat.reduceDiv, Nat.reduceAdd, Int.reduceToNat, absV, absC, scalar, alen, acap, conc, flats, live, blkOf, aload, rd, part?, afieldAddr, afield, aindexAddr, cellsOf, afill, places, abuild, optI, asliceV, asliceS, szOk, srcCells, aappend, acopy, astore, amakeSlice, abuildSlice, snapL, mapO, treeL, AVal.tree, AVal.flatT, isFlat, ares, isFz, afroz, afrozB, lookupA, lookupH, tops, if_true, if_false, reduceCtorEq, forall_const, ite_true, ite_false, implies_true, walkS, tabS, Tryd.results19, eq_false c1, eq_false c2]
  refine callK (den_ContainsRowsC R _ [.iptr [intss R] 0] (fun _ => False) (by simp only [treeL, AVal.tree, treeL_ints, Bool.and_self]) (fun x hx => den_vr1 h hx) (fun s => by simp only [snapL, snap_iptr, treeL, AVal.tree, treeL_ints, Bool.and_self, if_true]) (fun s => by simp only [mapO, snap_iptr, treeL, AVal.tree, treeL_ints, Bool.and_self, if_true])) (by first | exact .inl rfl | exact .inr rfl) ?_
  simp (config := { maxSteps := 1000000 }) +decide only [NoH, Old, OldL, nilQ, nilA, asgn, nz, RechL, ReY, isNew, stepO, XPost, postN, XOk, updN, updU, isEff, avalue, aeff, ASt.eval, ASt.put, ASt.set, ASt.new, Nat.reduceDiv, Nat.reduceAdd, Int.reduceToNat, absV, absC, scalar, alen, acap, conc, flats, live, blkOf, aload, rd, part?, afieldAddr, afield, aindexAddr, cellsOf, afill, places, abuild, optI, asliceV, asliceS, szOk, srcCells, aappend, acopy, astore, amakeSlice, abuildSlice, snapL, mapO, treeL, AVal.tree, AVal.flatT, isFlat, ares, isFz, afroz, afrozB, lookupA, lookupH, tops, if_true, if_false, reduceCtorEq, forall_const, ite_true, ite_false, implies_true, walkS, tabS, Tryd.results19, exists_false, and_false]
theorem den_ServersOf {R : List (List Int)} {n : Nat} (h : RwOk R n) : Den Tryd.prog 11 [intss R] (.tup [ints (R.map fun r => (sv r : Int)), .i 0]) := by
  refine den_of_awpG (ghs [] [19]) Tryd.func11 rfl (by kernel_rfl) (Nat.le_of_ble_eq_true rfl) (by simp only [treeL, AVal.tree, treeL_i, treeL_ints, treeL_u8, treeL_append, Bool.and_self, Bool.and_true, Bool.true_and]) (by first | rfl | simp only [treeL, AVal.tree, treeL_i, treeL_ints, treeL_u8, treeL_append, Bool.and_self, Bool.and_true, Bool.true_and]) mixed (by kernel_rfl) fun hl => ?_
  simp only [lensL, lens, lensL_i, lensL_mapC, maxI, and_true, true_and] at hl
  rw [Tryd.ntmps11]
  refine ex_start ?_
  have h5 := h.r5
  simp (config := { maxSteps := 1000000 }) +decide only [NoH, Old, OldL, nilQ, nilA, asgn, nz, RechL, ReY, isNew, stepO, XPost, postN, XOk, updN, updU, isEff, avalue, aeff, ASt.eval, ASt.put, ASt.set, ASt.new, Nat.reduceDiv, Nat.reduceAdd, Int.reduceToNat, absV, absC, scalar, alen, acap, conc, flats, live, blkOf, aload, rd, part?, afieldAddr, afield, aindexAddr, cellsOf, afill, places, abuild, optI, asliceV, asliceS, szOk, srcCells, aappend, acopy, astore, amakeSlice, abuildSlice, snapL, mapO, treeL, AVal.tree, AVal.flatT, isFlat, ares, isFz, afroz, afrozB, lookupA, lookupH, tops, if_true, if_false, reduceCtorEq, forall_const, ite_true, ite_false, implies_true, walkS, tabS, Tryd.results11]
  refine callK (den_ValidRows h) (by first | exact .inl rfl | exact .inr rfl) ?_
  simp (config := { maxSteps := 1000000 }) +decide only [NoH, Old, OldL, nilQ, nilA, asgn, nz, RechL, ReY, isNew, stepO, XPost, postN, XOk, updN, updU, isEff, avalue, aeff, ASt.eval, ASt.put, ASt.set, ASt.new, Nat.reduceDiv, Nat.reduceAdd, Int.reduceToNat, absV, absC, scalar, alen, acap, conc, flats, live, blkOf, aload, rd, part?, afieldAddr, afield, aindexAddr, cellsOf, afill, places, abuild, optI, asliceV, asliceS, szOk, srcCells, aappend, acopy, astore, amakeSlice, abuildSlice, snapL, mapO, treeL, AVal.tree, AVal.flatT, isFlat, ares, isFz, afroz, afrozB, lookupA, lookupH, tops, if_true, if_false, reduceCtorEq, forall_const, ite_true, ite_false, implies_true, walkS, tabS, Tryd.results11]
  refine ex_loop (fun p : {p : List Int × Nat × Nat // p.1.length ≤ R.length ∧ p.1 = (R.map fun r => (sv r : Int)).take p.1.length} => mkG (ghs [] [19]) [(4, .own 20 p.1.2.1 0 p.1.1.length), (10, intss R), (11, .i R.length), (12, .i p.1.1.length)] [(20, ⟨p.1.2.1, 1, mapC AVal.i p.1.1⟩)] p.1.2.2 23) (fun p => R.length - p.1.1.length) ⟨([], 0, 1), by simp, by simp⟩ ?_ ?_
  · refine weak_mk rfl (by first | exact Nat.le_refl _ | (simp only [mk_gen]; omega)) ?_ ?_ <;> simp +decide only [w_lookup_nil, w_lookup_cons, ch_ch, ch_lit, lit_ch, wkT, wkH, wkB, WVL, WV_refl', Int.natCast_zero, Int.natCast_add, Int.natCast_one, Nat.sub_self, Nat.sub_zero, List.replicate_zero, List.take_zero, List.nil_append, List.append_nil, fillC_zero, Nat.reduceDiv, Nat.reduceAdd, upd_bk, bk_at, getB_zero, getB_succ, modB_zero, modB_succ, rows_lit, repB_zero, repB_succ, List.length_cons, List.length_nil, upd_upd_same, upd_apply, mk_tmp, mk_heap, mk_gen, lookupA, lookupH, List.getD_cons_zero, List.getD_cons_succ, init_two, tops, Bool.true_and, and_self, and_true, true_and, true_or, if_true, if_false, ite_true, ite_false, reduceCtorEq, reduceIte, mapC_nil, List.length_nil]
    exact WV_nl rfl rfl rfl rfl
  rintro ⟨⟨L, g, G⟩, j1, j2⟩
  have j1' : L.length ≤ R.length := j1
  have j2' : L = (R.map fun r => (sv r : Int)).take L.length := j2
  have tk : L.take L.length = L := List.take_length
  by_cases hlt : L.length < R.length
  · have hltI : (L.length : Int) < (R.length : Int) := by omega
    have wk : IntKind.i64.wrap ((L.length : Int) + 1) = ((L.length + 1 : Nat) : Int) := wrap64 (by omega) (by omega)
    have hk := h.at hlt
    have hp : 0 < R[L.length].length := by have := hk.len; have := hk.n1; omega
    have h8 : (L.length + 1) * 8 ≤ 140737488355328 := by omega
    have sn : mapC AVal.i L ++ [AVal.i (sv R[L.length])] = mapC AVal.i (L ++ [(sv R[L.length] : Int)]) := mapC_snoc ..
    have e2 : L ++ [(sv R[L.length] : Int)] = (R.map fun r => (sv r : Int)).take (L.length + 1) := by
      rw [List.take_succ_eq_append_getElem (by simpa using hlt), ← j2', List.getElem_map]
    simp (config := { maxSteps := 1000000 }) +decide only [NoH, Old, OldL, nilQ, nilA, asgn, nz, RechL, ReY, isNew, stepO, XPost, postN, XOk, updN, updU, isEff, avalue, aeff, ASt.eval, ASt.put, ASt.set, ASt.new, Nat.reduceDiv, Nat.reduceAdd, Int.reduceToNat, absV, absC, scalar, alen, acap, conc, flats, live, blkOf, aload, rd, part?, afieldAddr, afield, aindexAddr, cellsOf, afill, places, abuild, optI, asliceV, asliceS, szOk, srcCells, aappend, acopy, astore, amakeSlice, abuildSlice, snapL, mapO, treeL, AVal.tree, AVal.flatT, isFlat, ares, isFz, afroz, afrozB, lookupA, lookupH, tops, if_true, if_false, reduceCtorEq, forall_const, ite_true, ite_false, implies_true, walkS, tabS, Tryd.results11, eq_true hltI, hlt]
    refine callK (den_serverOf hp) (by first | exact .inl rfl | exact .inr rfl) ?_
    simp (config := { maxSteps := 1000000 }) +decide only [NoH, Old, OldL, nilQ, nilA, asgn, nz, RechL, ReY, isNew, stepO, XPost, postN, XOk, updN, updU, isEff, avalue, aeff, ASt.eval, ASt.put, ASt.set, ASt.new, Nat.reduceDiv, Nat.reduceAdd, Int.reduceToNat, absV, absC, scalar, alen, acap, conc, flats, live, blkOf, aload, rd, part?, afieldAddr, afield, aindexAddr, cellsOf, afill, places, abuild, optI, asliceV, asliceS, szOk, srcCells, aappend, acopy, astore, amakeSlice, abuildSlice, snapL, mapO, treeL, AVal.tree, AVal.flatT, isFlat, ares, isFz, afroz, afrozB, lookupA, lookupH, tops, if_true, if_false, reduceCtorEq, forall_const, ite_true, ite_false, implies_true, walkS, tabS, Tryd.results11, wk, tk, h8, sn, List.replicate_succ, List.flatten_cons, List.flatten_nil]
    refine ⟨⟨(L ++ [(sv R[L.length] : Int)], G, G + 1), by simp; omega, by simp only [List.length_append, List.length_singleton]; exact e2⟩, ?_, by show R.length - (L ++ [_]).length < R.length - L.length; simp; omega⟩
    refine weak_mk rfl (by first | exact Nat.le_refl _ | (simp only [mk_gen]; omega)) ?_ ?_ <;> simp +decide only [w_lookup_nil, w_lookup_cons, ch_ch, ch_lit, lit_ch, wkT, wkH, wkB, WVL, WV_refl', Int.natCast_zero, Int.natCast_add, Int.natCast_one, Nat.sub_self, Nat.sub_zero, List.replicate_zero, List.take_zero, List.nil_append, List.append_nil, fillC_zero, Nat.reduceDiv, Nat.reduceAdd, upd_bk, bk_at, getB_zero, getB_succ, modB_zero, modB_succ, rows_lit, repB_zero, repB_succ, List.length_cons, List.length_nil, upd_upd_same, upd_apply, mk_tmp, mk_heap, mk_gen, lookupA, lookupH, List.getD_cons_zero, List.getD_cons_succ, init_two, tops, Bool.true_and, and_self, and_true, true_and, true_or, if_true, if_false, ite_true, ite_false, reduceCtorEq, reduceIte, List.length_append, List.length_cons, List.length_nil, Nat.zero_add]
  have hltI : ¬ (L.length : Int) < (R.length : Int) := by omega
  have hN : L.length = R.length := by omega
  have eL : L = R.map fun r => (sv r : Int) := by rw [j2', hN]; exact List.take_of_length_le (by simp)
  subst eL
  simp (config := { maxSteps := 1000000 }) +decide only [NoH, Old, OldL, nilQ, nilA, asgn, nz, RechL, ReY, isNew, stepO, XPost, postN, XOk, updN, updU, isEff, avalue, aeff, ASt.eval, ASt.put, ASt.set, ASt.new, Nat.reduceDiv, Nat.reduceAdd, Int.reduceToNat, absV, absC, scalar, alen, acap, conc, flats, live, blkOf, aload, rd, part?, afieldAddr, afield, aindexAddr, cellsOf, afill, places, abuild, optI, asliceV, asliceS, szOk, srcCells, aappend, acopy, astore, amakeSlice, abuildSlice, snapL, mapO, treeL, AVal.tree, AVal.flatT, isFlat, ares, isFz, afroz, afrozB, lookupA, lookupH, tops, if_true, if_false, reduceCtorEq, forall_const, ite_true, ite_false, implies_true, walkS, tabS, Tryd.results11, eq_false hltI, tk]
theorem den_cloneLists (D : List (List Int)) (hD : D.length ≤ 1000) (hd : ∀ d ∈ D, d.length ≤ 1000) : Den Tryd.prog 25 [intss D] (intss D) := by
  refine den_of_awpG (ghs [] [15]) Tryd.func25 rfl (by kernel_rfl) (Nat.le_of_ble_eq_true rfl) (by simp only [treeL, AVal.tree, treeL_i, treeL_ints, treeL_u8, treeL_append, Bool.and_self, Bool.and_true, Bool.true_and]) (by first | rfl | simp only [treeL, AVal.tree, treeL_i, treeL_ints, treeL_u8, treeL_append, Bool.and_self, Bool.and_true, Bool.true_and]) mixed (by kernel_rfl) fun hl => ?_
  simp only [lensL, lens, lensL_i, lensL_mapC, maxI, and_true, true_and] at hl
  rw [Tryd.ntmps25]
  refine ex_start ?_
  simp (config := { maxSteps := 1000000 }) +decide only [NoH, Old, OldL, nilQ, nilA, asgn, nz, RechL, ReY, isNew, stepO, XPost, postN, XOk, updN, updU, isEff, avalue, aeff, ASt.eval, ASt.put, ASt.set, ASt.new, Nat.reduceDiv, Nat.reduceAdd, Int.reduceToNat, absV, absC, scalar, alen, acap, conc, flats, live, blkOf, aload, rd, part?, afieldAddr, afield, aindexAddr, cellsOf, afill, places, abuild, optI, asliceV, asliceS, szOk, srcCells, aappend, acopy, astore, amakeSlice, abuildSlice, snapL, mapO, treeL, AVal.tree, AVal.flatT, isFlat, ares, isFz, afroz, afrozB, lookupA, lookupH, tops, if_true, if_false, reduceCtorEq, forall_const, ite_true, ite_false, implies_true, walkS, tabS, Tryd.results25]
  refine ex_loop (fun p : {p : List (List Int) × Nat × Nat // p.1.length ≤ D.length ∧ p.1 = D.take p.1.length} => mkG (ghs [] [15]) [(3, .own 16 p.1.2.1 0 p.1.1.length), (6, intss D), (7, .i D.length), (8, .i p.1.1.length)] [(16, ⟨p.1.2.1, 1, mapC ints p.1.1⟩)] p.1.2.2 19) (fun p => D.length - p.1.1.length) ⟨([], 0, 1), by simp, by simp⟩ ?_ ?_
  · refine weak_mk rfl (by first | exact Nat.le_refl _ | (simp only [mk_gen]; omega)) ?_ ?_ <;> simp +decide only [w_lookup_nil, w_lookup_cons, ch_ch, ch_lit, lit_ch, wkT, wkH, wkB, WVL, WV_refl', Int.natCast_zero, Int.natCast_add, Int.natCast_one, Nat.sub_self, Nat.sub_zero, List.replicate_zero, List.take_zero, List.nil_append, List.append_nil, fillC_zero, Nat.reduceDiv, Nat.reduceAdd, upd_bk, bk_at, getB_zero, getB_succ, modB_zero, modB_succ, rows_lit, repB_zero, repB_succ, List.length_cons, List.length_nil, upd_upd_same, upd_apply, mk_tmp, mk_heap, mk_gen, lookupA, lookupH, List.getD_cons_zero, List.getD_cons_succ, init_two, tops, Bool.true_and, and_self, and_true, true_and, true_or, if_true, if_false, ite_true, ite_false, reduceCtorEq, reduceIte, mapC_nil, List.length_nil]
    exact WV_nl rfl rfl rfl rfl
  rintro ⟨⟨L, g, G⟩, j1, j2⟩
  have j1' : L.length ≤ D.length := j1
  have j2' : L = D.take L.length := j2
  have tk : L.take L.length = L := List.take_length
  by_cases hlt : L.length < D.length
  · have hltI : (L.length : Int) < (D.length : Int) := by omega
    have wk : IntKind.i64.wrap ((L.length : Int) + 1) = ((L.length + 1 : Nat) : Int) := wrap64 (by omega) (by omega)
    have hb := hd _ (List.getElem_mem hlt)
    have h24 : (L.length + 1) * 24 ≤ 140737488355328 := by omega
    have sn : mapC ints L ++ [ints D[L.length]] = mapC ints (L ++ [D[L.length]]) := mapC_snoc ..
    have e2 : L ++ [D[L.length]] = D.take (L.length + 1) := by
      rw [List.take_succ_eq_append_getElem hlt, ← j2']
    have dc : Den Tryd.prog 44 [ints D[L.length]] (ints D[L.length]) := (denx_Clone D[L.length] (by omega)).den (by simp only [treeL, AVal.tree, treeL_i, Bool.and_self, Bool.and_true]) (by simp only [XT.freeze, freezeL, freezeL_i]) (by simp only [treeL, AVal.tree, treeL_i, Bool.and_self, Bool.and_true])
    simp (config := { maxSteps := 1000000 }) +decide only [NoH, Old, OldL, nilQ, nilA, asgn, nz, RechL, ReY, isNew, stepO, XPost, postN, XOk, updN, updU, isEff, avalue, aeff, ASt.eval, ASt.put, ASt.set, ASt.new, Nat.reduceDiv, Nat.reduceAdd, Int.reduceToNat, absV, absC, scalar, alen, acap, conc, flats, live, blkOf, aload, rd, part?, afieldAddr, afield, aindexAddr, cellsOf, afill, places, abuild, optI, asliceV, asliceS, szOk, srcCells, aappend, acopy, astore, amakeSlice, abuildSlice, snapL, mapO, treeL, AVal.tree, AVal.flatT, isFlat, ares, isFz, afroz, afrozB, lookupA, lookupH, tops, if_true, if_false, reduceCtorEq, forall_const, ite_true, ite_false, implies_true, walkS, tabS, Tryd.results25, eq_true hltI, hlt]
    refine callK (dc) (by first | exact .inl rfl | exact .inr rfl) ?_
    simp (config := { maxSteps := 1000000 }) +decide only [NoH, Old, OldL, nilQ, nilA, asgn, nz, RechL, ReY, isNew, stepO, XPost, postN, XOk, updN, updU, isEff, avalue, aeff, ASt.eval, ASt.put, ASt.set, ASt.new, Nat.reduceDiv, Nat.reduceAdd, Int.reduceToNat, absV, absC, scalar, alen, acap, conc, flats, live, blkOf, aload, rd, part?, afieldAddr, afield, aindexAddr, cellsOf, afill, places, abuild, optI, asliceV, asliceS, szOk, srcCells, aappend, acopy, astore, amakeSlice, abuildSlice, snapL, mapO, treeL, AVal.tree, AVal.flatT, isFlat, ares, isFz, afroz, afrozB, lookupA, lookupH, tops, if_true, if_false, reduceCtorEq, forall_const, ite_true, ite_false, implies_true, walkS, tabS, Tryd.results25, wk, tk, h24, sn, List.replicate_succ, List.flatten_cons, List.flatten_nil]
    refine ⟨⟨(L ++ [D[L.length]], G, G + 1), by simp; omega, by simp only [List.length_append, List.length_singleton]; exact e2⟩, ?_, by show D.length - (L ++ [_]).length < D.length - L.length; simp; omega⟩
    refine weak_mk rfl (by first | exact Nat.le_refl _ | (simp only [mk_gen]; omega)) ?_ ?_ <;> simp +decide only [w_lookup_nil, w_lookup_cons, ch_ch, ch_lit, lit_ch, wkT, wkH, wkB, WVL, WV_refl', Int.natCast_zero, Int.natCast_add, Int.natCast_one, Nat.sub_self, Nat.sub_zero, List.replicate_zero, List.take_zero, List.nil_append, List.append_nil, fillC_zero, Nat.reduceDiv, Nat.reduceAdd, upd_bk, bk_at, getB_zero, getB_succ, modB_zero, modB_succ, rows_lit, repB_zero, repB_succ, List.length_cons, List.length_nil, upd_upd_same, upd_apply, mk_tmp, mk_heap, mk_gen, lookupA, lookupH, List.getD_cons_zero, List.getD_cons_succ, init_two, tops, Bool.true_and, and_self, and_true, true_and, true_or, if_true, if_false, ite_true, ite_false, reduceCtorEq, reduceIte, List.length_append, List.length_cons, List.length_nil, Nat.zero_add]
  have hltI : ¬ (L.length : Int) < (D.length : Int) := by omega
  have hN : L.length = D.length := by omega
  have eL : L = D := by rw [j2', hN]; exact List.take_length
  subst eL
  simp (config := { maxSteps := 1000000 }) +decide only [NoH, Old, OldL, nilQ, nilA, asgn, nz, RechL, ReY, isNew, stepO, XPost, postN, XOk, updN, updU, isEff, avalue, aeff, ASt.eval, ASt.put, ASt.set, ASt.new, Nat.reduceDiv, Nat.reduceAdd, Int.reduceToNat, absV, absC, scalar, alen, acap, conc, flats, live, blkOf, aload, rd, part?, afieldAddr, afield, aindexAddr, cellsOf, afill, places, abuild, optI, asliceV, asliceS, szOk, srcCells, aappend, acopy, astore, amakeSlice, abuildSlice, snapL, mapO, treeL, AVal.tree, AVal.flatT, isFlat, ares, isFz, afroz, afrozB, lookupA, lookupH, tops, if_true, if_false, reduceCtorEq, forall_const, ite_true, ite_false, implies_true, walkS, tabS, Tryd.results25, eq_false hltI, tk, treeL_ints]
theorem den_ratioOk (x : Int) (h : -200000 ≤ x ∧ x ≤ 200000) : Den Tryd.prog 24 [.i x] (.b true) := by
  refine den_of_awp Tryd.func24 rfl (by kernel_rfl) (Nat.le_of_ble_eq_true rfl) (by simp only [treeL, AVal.tree, treeL_i, treeL_ints, treeL_u8, treeL_append, Bool.and_self, Bool.and_true, Bool.true_and]) (by first | rfl | simp only [treeL, AVal.tree, treeL_i, treeL_ints, treeL_u8, treeL_append, Bool.and_self, Bool.and_true, Bool.true_and]) mixed (by kernel_rfl) fun hl => ?_
  simp only [lensL, lens, lensL_i, lensL_mapC, maxI, and_true, true_and] at hl
  rw [Tryd.ntmps24]
  refine ex_start ?_
  simp (config := { maxSteps := 1000000 }) +decide only [NoH, Old, OldL, nilQ, nilA, asgn, nz, RechL, ReY, isNew, stepO, XPost, postN, XOk, updN, updU, isEff, avalue, aeff, ASt.eval, ASt.put, ASt.set, ASt.new, Nat.reduceDiv, Nat.reduceAdd, Int.reduceToNat, absV, absC, scalar, alen, acap, conc, flats, live, blkOf, aload, rd, part?, afieldAddr, afield, aindexAddr, cellsOf, afill, places, abuild, optI, asliceV, asliceS, szOk, srcCells, aappend, acopy, astore, amakeSlice, abuildSlice, snapL, mapO, treeL, AVal.tree, AVal.flatT, isFlat, ares, isFz, afroz, afrozB, lookupA, lookupH, tops, if_true, if_false, reduceCtorEq, forall_const, ite_true, ite_false, implies_true, walkS, tabS, Tryd.results24]
  refine callK (den_within x (-200000) 200000) (by first | exact .inl rfl | exact .inr rfl) ?_
  simp (config := { maxSteps := 1000000 }) +decide only [NoH, Old, OldL, nilQ, nilA, asgn, nz, RechL, ReY, isNew, stepO, XPost, postN, XOk, updN, updU, isEff, avalue, aeff, ASt.eval, ASt.put, ASt.set, ASt.new, Nat.reduceDiv, Nat.reduceAdd, Int.reduceToNat, absV, absC, scalar, alen, acap, conc, flats, live, blkOf, aload, rd, part?, afieldAddr, afield, aindexAddr, cellsOf, afill, places, abuild, optI, asliceV, asliceS, szOk, srcCells, aappend, acopy, astore, amakeSlice, abuildSlice, snapL, mapO, treeL, AVal.tree, AVal.flatT, isFlat, ares, isFz, afroz, afrozB, lookupA, lookupH, tops, if_true, if_false, reduceCtorEq, forall_const, ite_true, ite_false, implies_true, walkS, tabS, Tryd.results24, eq_true h]
end Go.Proofs.YtagomliggjndeaaDoor
