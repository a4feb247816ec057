/-
  OWN WORK: the reference's decimal text of a number.
-/
import Derived.Test.YtnklfhjpigameaaDoorTxD
import Derived.Test.YtnklfhjpigameaaDoorSrc
namespace Go.Proofs.YtnklfhjpigameaaDoor
open Go Go.Own Go.Proofs
set_option maxHeartbeats 4000000
set_option maxRecDepth 20000
set_option linter.unusedSimpArgs false
set_option linter.unusedVariables false
/-- the digits, none of zero -/
def decT (q : Nat) : List UInt8 := if q = 0 then [] else Lib.decDigits q
theorem decT_zero : decT 0 = [] := rfl
theorem decT_step {q : Nat} (h : 0 < q) : decT q = decT (q / 10) ++ [UInt8.ofNat (48 + q % 10)] := by
  unfold decT
  rw [if_neg (by omega)]
  by_cases c : q < 10
  · rw [if_pos (by omega), Lib.decDigits_one c, show q % 10 = q from by omega]
    rfl
  · rw [if_neg (by omega), Lib.decDigits, dif_neg c]
theorem decT_pos {q : Nat} (h : 0 < q) : decT q = Lib.decDigits q := if_neg (by omega)
def sgv (b : Bool) (q : Nat) : Int := if b then -(q : Int) else q
theorem sgv_rem (b : Bool) (q : Nat) : (sgv b q).tmod 10 = sgv b (q % 10) := by
  have e : ((q : Nat) : Int).tmod 10 = ((q % 10 : Nat) : Int) := by rw [Int.tmod_eq_emod_of_nonneg (by omega)]; omega
  cases b
  · exact e
  · show (-(q : Int)).tmod 10 = -((q % 10 : Nat) : Int)
    rw [Int.neg_tmod, e]
theorem sgv_quo (b : Bool) (q : Nat) : (sgv b q).tdiv 10 = sgv b (q / 10) := by
  have e : ((q : Nat) : Int).tdiv 10 = ((q / 10 : Nat) : Int) := by rw [Int.tdiv_eq_ediv_of_nonneg (by omega)]; omega
  cases b
  · exact e
  · show (-(q : Int)).tdiv 10 = -((q / 10 : Nat) : Int)
    rw [Int.neg_tdiv, e]
theorem sgv_zero (b : Bool) (q : Nat) : sgv b q = 0 ↔ q = 0 := by
  unfold sgv
  cases b <;> simp
theorem sgv_in {b : Bool} {q : Nat} (h : q ≤ 9223372036854775807) : -9223372036854775807 ≤ sgv b q ∧ sgv b q ≤ 9223372036854775807 := by
  unfold sgv
  cases b
  · refine ⟨?_, ?_⟩ <;> simp <;> omega
  · refine ⟨?_, ?_⟩ <;> simp <;> omega
theorem sgv_of (n : Int) : n = sgv (decide (n < 0)) n.natAbs := by
  unfold sgv
  by_cases h : n < 0
  · simp [h]
    omega
  · simp [h]
    omega
/-- the text: the sign and the digits -/
theorem itoa_dec {n : Int} (h : n ≠ 0) : Lib.itoa n = (if n < 0 then [45] else []) ++ decT n.natAbs := by
  rw [decT_pos (by omega)]
  unfold Lib.itoa
  split
  · rfl
  · rw [show n.toNat = n.natAbs from by omega]
    rfl
/-- the bytes as numbers -/
def nums8 (l : List UInt8) : List Int := l.map fun c => ((c.toNat : Nat) : Int)
theorem den_l01Dec (n : Int) (h1 : -9223372036854775807 ≤ n) (h2 : n ≤ 9223372036854775807) : Den Tryd.prog 20 [.i n] (.t (Lib.itoa n)) := by
  by_cases hz : n = 0
  · subst hz
    have e : Lib.itoa 0 = [48] := by decide +kernel
    rw [e]
    refine den_of_awpG (ghs [(27, 10), (32, 10), (47, 33)] [26, 31, 46]) Tryd.func20 rfl (by kernel_rfl) (Nat.le_of_ble_eq_true rfl) (by simp only [treeL, AVal.tree, treeL_i, treeL_ints, treeL_u8, treeL_append, Bool.and_self, Bool.and_true, Bool.true_and]) (by first | rfl | simp only [treeL, AVal.tree, treeL_i, treeL_ints, treeL_u8, treeL_append, Bool.and_self, Bool.and_true, Bool.true_and]) mixed (by kernel_rfl) fun hl => ?_
    simp only [lensL, lens, lensL_i, lensL_mapC, maxI, and_true, true_and] at hl
    rw [Tryd.ntmps20]
    refine ex_start ?_
    simp (config := { maxSteps := 1000000 }) +decide only [NoH, Old, OldL, nilQ, nilA, asgn, nz, RechL, ReY, isNew, stepO, XPost, postN, XOk, updN, updU, isEff, avalue, aeff, ASt.eval, ASt.put, ASt.set, ASt.new, Nat.reduceDiv, Nat.reduceAdd, Int.reduceToNat, absV, absC, scalar, alen, acap, conc, flats, live, blkOf, aload, rd, part?, afieldAddr, afield, aindexAddr, cellsOf, afill, places, abuild, optI, asliceV, asliceS, szOk, srcCells, aappend, acopy, astore, amakeSlice, abuildSlice, snapL, mapO, treeL, AVal.tree, AVal.flatT, isFlat, ares, isFz, afroz, afrozB, lookupA, lookupH, tops, if_true, if_false, reduceCtorEq, forall_const, ite_true, ite_false, implies_true, walkS, tabS, Tryd.results20, bt]
    try rfl
  rw [itoa_dec hz]
  have nl : (decT n.natAbs).length ≤ 20 := by
    rw [decT_pos (by omega), Lib.decDigits_length]
    exact nDigits_le 20 _ (by omega) (by omega)
  refine den_of_awpG (ghs [(27, 10), (32, 10), (47, 33)] [26, 31, 46]) Tryd.func20 rfl (by kernel_rfl) (Nat.le_of_ble_eq_true rfl) (by simp only [treeL, AVal.tree, treeL_i, treeL_ints, treeL_u8, treeL_append, Bool.and_self, Bool.and_true, Bool.true_and]) (by first | rfl | simp only [treeL, AVal.tree, treeL_i, treeL_ints, treeL_u8, treeL_append, Bool.and_self, Bool.and_true, Bool.true_and]) mixed (by kernel_rfl) fun hl => ?_
  simp only [lensL, lens, lensL_i, lensL_mapC, maxI, and_true, true_and] at hl
  rw [Tryd.ntmps20]
  refine ex_start ?_
  simp (config := { maxSteps := 1000000 }) +decide only [NoH, Old, OldL, nilQ, nilA, asgn, nz, RechL, ReY, isNew, stepO, XPost, postN, XOk, updN, updU, isEff, avalue, aeff, ASt.eval, ASt.put, ASt.set, ASt.new, Nat.reduceDiv, Nat.reduceAdd, Int.reduceToNat, absV, absC, scalar, alen, acap, conc, flats, live, blkOf, aload, rd, part?, afieldAddr, afield, aindexAddr, cellsOf, afill, places, abuild, optI, asliceV, asliceS, szOk, srcCells, aappend, acopy, astore, amakeSlice, abuildSlice, snapL, mapO, treeL, AVal.tree, AVal.flatT, isFlat, ares, isFz, afroz, afrozB, lookupA, lookupH, tops, if_true, if_false, reduceCtorEq, forall_const, ite_true, ite_false, implies_true, walkS, tabS, Tryd.results20, eq_false hz]
  refine ex_loop (fun p : {p : Nat × List UInt8 × Nat × Nat // decT p.1 ++ p.2.1.reverse = decT n.natAbs ∧ p.1 ≤ n.natAbs} => mkG (ghs [(27, 10), (32, 10), (47, 33)] [26, 31, 46]) [(0, .i n), (3, .own 10 p.1.2.2.1 0 p.1.2.1.length), (4, .i (sgv (decide (n < 0)) p.1.1))] [(10, ⟨p.1.2.2.1, 1, mapC AVal.u8 (nums8 p.1.2.1)⟩)] p.1.2.2.2 50) (fun p => p.1.1) ⟨(n.natAbs, [], 0, 1), by simp, Nat.le_refl _⟩ ?_ ?_
  · have es := (sgv_of n).symm
    refine weak_mk rfl (by first | exact Nat.le_refl _ | (simp only [mk_gen]; omega)) ?_ ?_ <;> simp +decide only [w_lookup_nil, w_lookup_cons, ch_ch, ch_lit, lit_ch, wkT, wkH, wkB, WVL, WV_refl', Int.natCast_zero, Int.natCast_add, Int.natCast_one, Nat.sub_self, Nat.sub_zero, List.replicate_zero, List.take_zero, List.nil_append, List.append_nil, fillC_zero, Nat.reduceDiv, Nat.reduceAdd, upd_bk, bk_at, getB_zero, getB_succ, modB_zero, modB_succ, rows_lit, repB_zero, repB_succ, List.length_cons, List.length_nil, upd_upd_same, upd_apply, mk_tmp, mk_heap, mk_gen, lookupA, lookupH, List.getD_cons_zero, List.getD_cons_succ, init_two, tops, Bool.true_and, and_self, and_true, true_and, true_or, if_true, if_false, ite_true, ite_false, reduceCtorEq, reduceIte, mapC_nil, List.length_nil, nums8, List.map_nil, es]
  rintro ⟨⟨q, R, g, G⟩, j1, j2⟩
  have i1 : decT q ++ R.reverse = decT n.natAbs := j1
  have i2 : q ≤ n.natAbs := j2
  have rl : R.length ≤ 20 := by
    have := congrArg List.length i1
    rw [List.length_append, List.length_reverse] at this
    omega
  have tR : (nums8 R).take R.length = nums8 R := List.take_of_length_le (by simp [nums8])
  have lN : (nums8 R).length = R.length := by simp [nums8]
  by_cases hq : 0 < q
  · have hqI : ¬ sgv (decide (n < 0)) q = 0 := fun k => by have := (sgv_zero _ _).1 k; omega
    have sr := sgv_rem (decide (n < 0)) q
    have sq := sgv_quo (decide (n < 0)) q
    have wq : IntKind.i64.wrap (sgv (decide (n < 0)) (q / 10)) = sgv (decide (n < 0)) (q / 10) := by
      have := sgv_in (b := decide (n < 0)) (q := q / 10) (by omega)
      exact wrap64 (by omega) (by omega)
    have st := decT_step hq
    have d10 : q % 10 < 10 := Nat.mod_lt _ (by omega)
    have w48 : IntKind.i64.wrap (48 + ((q % 10 : Nat) : Int)) = ((48 + q % 10 : Nat) : Int) := (wrap64 (by omega) (by omega)).trans (by omega)
    have cv : semS Tryd.prog (convert 2 5 (.int .i64 ((48 + q % 10 : Nat) : Int))) = some (.flat (.int .u8 (IntKind.u8.wrap ((48 + q % 10 : Nat) : Int)))) := sem_conv _ _ (by kernel_rfl) (by kernel_rfl)
    have w8 : IntKind.u8.wrap ((48 + q % 10 : Nat) : Int) = (((UInt8.ofNat (48 + q % 10)).toNat : Nat) : Int) := by
      rw [dig_of d10]
      exact IntWalk.u8_in _ ⟨by omega, by omega⟩
    have sn : mapC AVal.u8 (nums8 R) ++ [AVal.flat (.int .u8 (((UInt8.ofNat (48 + q % 10)).toNat : Nat) : Int))] = mapC AVal.u8 (nums8 (R ++ [UInt8.ofNat (48 + q % 10)])) := by simp [mapC, nums8, AVal.u8]
    have h8 : (R.length + 1) * 1 ≤ 140737488355328 := by omega
    have h8' : R.length + 1 ≤ 140737488355328 := by omega
    have inv : decT (q / 10) ++ (R ++ [UInt8.ofNat (48 + q % 10)]).reverse = decT n.natAbs := by
      rw [← i1, st]
      simp
    have fl : ∀ v z : AVal, lay (List.replicate 1 z) 0 [v] = [v] := fun v z => rfl
    by_cases c : sgv (decide (n < 0)) (q % 10) < 0
    · have wn : IntKind.i64.wrap (0 - sgv (decide (n < 0)) (q % 10)) = ((q % 10 : Nat) : Int) := by
        have e : sgv (decide (n < 0)) (q % 10) = -((q % 10 : Nat) : Int) := by
          unfold sgv at c ⊢
          split
          · rfl
          · rename_i hb
            rw [if_neg hb] at c
            omega
        rw [e]
        exact (wrap64 (by omega) (by omega)).trans (by omega)
      simp (config := { maxSteps := 1000000 }) +decide only [NoH, Old, OldL, nilQ, nilA, asgn, nz, RechL, ReY, isNew, stepO, XPost, postN, XOk, updN, updU, isEff, avalue, aeff, ASt.eval, ASt.put, ASt.set, ASt.new, Nat.reduceDiv, Nat.reduceAdd, Int.reduceToNat, absV, absC, scalar, alen, acap, conc, flats, live, blkOf, aload, rd, part?, afieldAddr, afield, aindexAddr, cellsOf, afill, places, abuild, optI, asliceV, asliceS, szOk, srcCells, aappend, acopy, astore, amakeSlice, abuildSlice, snapL, mapO, treeL, AVal.tree, AVal.flatT, isFlat, ares, isFz, afroz, afrozB, lookupA, lookupH, tops, if_true, if_false, reduceCtorEq, forall_const, ite_true, ite_false, implies_true, walkS, tabS, Tryd.results20, eq_false hqI, sem_rem, sem_quo, sr, sq, eq_true c, wn, w48, cv, w8, wq, tR, lN, fl, sn, h8, h8', List.length_cons, List.length_nil, List.take_succ_cons, List.take_zero]
      refine ⟨⟨(q / 10, R ++ [UInt8.ofNat (48 + q % 10)], G, G + 1), inv, by show q / 10 ≤ _; omega⟩, ?_, by show q / 10 < q; omega⟩
      refine weak_mk rfl (by first | exact Nat.le_refl _ | (simp only [mk_gen]; omega)) ?_ ?_ <;> simp +decide only [w_lookup_nil, w_lookup_cons, ch_ch, ch_lit, lit_ch, wkT, wkH, wkB, WVL, WV_refl', Int.natCast_zero, Int.natCast_add, Int.natCast_one, Nat.sub_self, Nat.sub_zero, List.replicate_zero, List.take_zero, List.nil_append, List.append_nil, fillC_zero, Nat.reduceDiv, Nat.reduceAdd, upd_bk, bk_at, getB_zero, getB_succ, modB_zero, modB_succ, rows_lit, repB_zero, repB_succ, List.length_cons, List.length_nil, upd_upd_same, upd_apply, mk_tmp, mk_heap, mk_gen, lookupA, lookupH, List.getD_cons_zero, List.getD_cons_succ, init_two, tops, Bool.true_and, and_self, and_true, true_and, true_or, if_true, if_false, ite_true, ite_false, reduceCtorEq, reduceIte, List.length_append, List.length_cons, List.length_nil, Nat.zero_add]
    · have e : sgv (decide (n < 0)) (q % 10) = ((q % 10 : Nat) : Int) := by
        unfold sgv at c ⊢
        split
        · rename_i hb
          rw [if_pos hb] at c
          omega
        · rfl
      rw [e] at c sr
      simp (config := { maxSteps := 1000000 }) +decide only [NoH, Old, OldL, nilQ, nilA, asgn, nz, RechL, ReY, isNew, stepO, XPost, postN, XOk, updN, updU, isEff, avalue, aeff, ASt.eval, ASt.put, ASt.set, ASt.new, Nat.reduceDiv, Nat.reduceAdd, Int.reduceToNat, absV, absC, scalar, alen, acap, conc, flats, live, blkOf, aload, rd, part?, afieldAddr, afield, aindexAddr, cellsOf, afill, places, abuild, optI, asliceV, asliceS, szOk, srcCells, aappend, acopy, astore, amakeSlice, abuildSlice, snapL, mapO, treeL, AVal.tree, AVal.flatT, isFlat, ares, isFz, afroz, afrozB, lookupA, lookupH, tops, if_true, if_false, reduceCtorEq, forall_const, ite_true, ite_false, implies_true, walkS, tabS, Tryd.results20, eq_false hqI, sem_rem, sem_quo, sr, sq, eq_false c, w48, cv, w8, wq, tR, lN, fl, sn, h8, h8', List.length_cons, List.length_nil, List.take_succ_cons, List.take_zero]
      refine ⟨⟨(q / 10, R ++ [UInt8.ofNat (48 + q % 10)], G, G + 1), inv, by show q / 10 ≤ _; omega⟩, ?_, by show q / 10 < q; omega⟩
      refine weak_mk rfl (by first | exact Nat.le_refl _ | (simp only [mk_gen]; omega)) ?_ ?_ <;> simp +decide only [w_lookup_nil, w_lookup_cons, ch_ch, ch_lit, lit_ch, wkT, wkH, wkB, WVL, WV_refl', Int.natCast_zero, Int.natCast_add, Int.natCast_one, Nat.sub_self, Nat.sub_zero, List.replicate_zero, List.take_zero, List.nil_append, List.append_nil, fillC_zero, Nat.reduceDiv, Nat.reduceAdd, upd_bk, bk_at, getB_zero, getB_succ, modB_zero, modB_succ, rows_lit, repB_zero, repB_succ, List.length_cons, List.length_nil, upd_upd_same, upd_apply, mk_tmp, mk_heap, mk_gen, lookupA, lookupH, List.getD_cons_zero, List.getD_cons_succ, init_two, tops, Bool.true_and, and_self, and_true, true_and, true_or, if_true, if_false, ite_true, ite_false, reduceCtorEq, reduceIte, List.length_append, List.length_cons, List.length_nil, Nat.zero_add]
  have q0 : q = 0 := by omega
  subst q0
  have hqI : sgv (decide (n < 0)) 0 = 0 := (sgv_zero _ _).2 rfl
  rw [decT_zero, List.nil_append] at i1
  obtain ⟨F, hF⟩ : ∃ F, R ++ (if n < 0 then [45] else []) = F := ⟨_, rfl⟩
  have eT : (if n < 0 then [45] else []) ++ decT n.natAbs = F.reverse := by
    rw [← hF, ← i1, List.reverse_append]
    split <;> simp
  have lF : F.length ≤ 21 := by
    rw [← hF, List.length_append]
    split <;> simp <;> omega
  rw [eT]
  have fl : ∀ v z : AVal, lay (List.replicate 1 z) 0 [v] = [v] := fun v z => rfl
  have h8' : R.length + 1 ≤ 140737488355328 := by omega
  by_cases hn : n < 0
  case pos =>
    have sn : mapC AVal.u8 (nums8 R) ++ [AVal.flat (.int .u8 45)] = mapC AVal.u8 (nums8 F) := by
      rw [← hF, if_pos hn]
      simp [mapC, nums8, AVal.u8]
    have l2 : R.length + 1 = F.length := by
      rw [← hF, if_pos hn]
      simp
    have h9 : F.length ≤ 140737488355328 := by omega
    have w1 : IntKind.i64.wrap ((F.length : Int) - 1) = (F.length : Int) - 1 := wrap64 (by omega) (by omega)
    simp (config := { maxSteps := 1000000 }) +decide only [NoH, Old, OldL, nilQ, nilA, asgn, nz, RechL, ReY, isNew, stepO, XPost, postN, XOk, updN, updU, isEff, avalue, aeff, ASt.eval, ASt.put, ASt.set, ASt.new, Nat.reduceDiv, Nat.reduceAdd, Int.reduceToNat, absV, absC, scalar, alen, acap, conc, flats, live, blkOf, aload, rd, part?, afieldAddr, afield, aindexAddr, cellsOf, afill, places, abuild, optI, asliceV, asliceS, szOk, srcCells, aappend, acopy, astore, amakeSlice, abuildSlice, snapL, mapO, treeL, AVal.tree, AVal.flatT, isFlat, ares, isFz, afroz, afrozB, lookupA, lookupH, tops, if_true, if_false, reduceCtorEq, forall_const, ite_true, ite_false, implies_true, walkS, tabS, Tryd.results20, eq_true hqI, eq_true hn, tR, lN, fl, sn, l2, h9, h8', w1, List.length_cons, List.length_nil, List.take_succ_cons, List.take_zero]
    refine ex_loopW (fun p : {p : Nat × Nat × Nat × Nat // p.1 ≤ F.length} => mkG (ghs [(27, 10), (32, 10), (47, 33)] [26, 31, 46]) [(3, .own 10 p.1.2.1 0 F.length), (6, .own 33 p.1.2.2.1 0 p.1.1), (7, .i ((F.length : Int) - 1 - (p.1.1 : Nat)))] [(10, ⟨p.1.2.1, 1, mapC AVal.u8 (nums8 F)⟩), (33, ⟨p.1.2.2.1, 1, mapC AVal.u8 (nums8 (F.reverse.take p.1.1))⟩)] p.1.2.2.2 50) (fun p => F.length - p.1.1) ⟨(0, G, G + 1, G + 2), Nat.zero_le _⟩ ?_ ?_
    · refine weak_mk rfl (by first | exact Nat.le_refl _ | (simp only [mk_gen]; omega)) ?_ ?_ <;> simp +decide only [w_lookup_nil, w_lookup_cons, ch_ch, ch_lit, lit_ch, wkT, wkH, wkB, WVL, WV_refl', Int.natCast_zero, Int.natCast_add, Int.natCast_one, Nat.sub_self, Nat.sub_zero, List.replicate_zero, List.take_zero, List.nil_append, List.append_nil, fillC_zero, Nat.reduceDiv, Nat.reduceAdd, upd_bk, bk_at, getB_zero, getB_succ, modB_zero, modB_succ, rows_lit, repB_zero, repB_succ, List.length_cons, List.length_nil, upd_upd_same, upd_apply, mk_tmp, mk_heap, mk_gen, lookupA, lookupH, List.getD_cons_zero, List.getD_cons_succ, init_two, tops, Bool.true_and, and_self, and_true, true_and, true_or, if_true, if_false, ite_true, ite_false, reduceCtorEq, reduceIte, nums8, List.map_nil, mapC_nil, Int.sub_zero]
    rintro ⟨⟨k, ga, gb, G2⟩, k1⟩
    have k1' : k ≤ F.length := k1
    have lk : (nums8 (F.reverse.take k)).length = k := by simp [nums8]; omega
    have tk : (nums8 (F.reverse.take k)).take k = nums8 (F.reverse.take k) := List.take_of_length_le (by omega)
    have lFF : (nums8 F).length = F.length := by simp [nums8]
    by_cases hlt : k < F.length
    · have e7 : (F.length : Int) - 1 - (k : Nat) = ((F.length - 1 - k : Nat) : Int) := by omega
      have hx : F.length - 1 - k < F.length := by omega
      have ct : (nums8 F)[F.length - 1 - k]? = some ((F[F.length - 1 - k].toNat : Nat) : Int) := by simp [nums8, hx]
      have ct2 : (mapC AVal.u8 (nums8 F))[F.length - 1 - k]? = some (AVal.flat (.int .u8 ((F[F.length - 1 - k].toNat : Nat) : Int))) := by simp [mapC, nums8, hx, AVal.u8]
      have wk : IntKind.i64.wrap (((F.length - 1 - k : Nat) : Int) - 1) = (F.length : Int) - 1 - ((k + 1 : Nat) : Int) := (wrap64 (by omega) (by omega)).trans (by omega)
      have ts : F.reverse.take (k + 1) = F.reverse.take k ++ [F[F.length - 1 - k]] := by
        rw [List.take_succ_eq_append_getElem (by simpa using hlt), List.getElem_reverse]
      have sn : mapC AVal.u8 (nums8 (F.reverse.take k)) ++ [AVal.flat (.int .u8 ((F[F.length - 1 - k].toNat : Nat) : Int))] = mapC AVal.u8 (nums8 (F.reverse.take (k + 1))) := by
        rw [ts]
        simp [mapC, nums8, AVal.u8]
      have hk8 : k + 1 ≤ 140737488355328 := by omega
      simp (config := { maxSteps := 1000000 }) +decide only [NoH, Old, OldL, nilQ, nilA, asgn, nz, RechL, ReY, isNew, stepO, XPost, postN, XOk, updN, updU, isEff, avalue, aeff, ASt.eval, ASt.put, ASt.set, ASt.new, Nat.reduceDiv, Nat.reduceAdd, Int.reduceToNat, absV, absC, scalar, alen, acap, conc, flats, live, blkOf, aload, rd, part?, afieldAddr, afield, aindexAddr, cellsOf, afill, places, abuild, optI, asliceV, asliceS, szOk, srcCells, aappend, acopy, astore, amakeSlice, abuildSlice, snapL, mapO, treeL, AVal.tree, AVal.flatT, isFlat, ares, isFz, afroz, afrozB, lookupA, lookupH, tops, if_true, if_false, reduceCtorEq, forall_const, ite_true, ite_false, implies_true, walkS, tabS, Tryd.results20, e7, hx, ct, ct2, lFF, lk, tk, fl, sn, hk8, wk, List.length_cons, List.length_nil, List.take_succ_cons, List.take_zero]
      refine ⟨⟨(k + 1, ga, G2, G2 + 1), hlt⟩, ?_, by show F.length - (k + 1) < F.length - k; omega⟩
      refine weak_mk rfl (by first | exact Nat.le_refl _ | (simp only [mk_gen]; omega)) ?_ ?_ <;> simp +decide only [w_lookup_nil, w_lookup_cons, ch_ch, ch_lit, lit_ch, wkT, wkH, wkB, WVL, WV_refl', Int.natCast_zero, Int.natCast_add, Int.natCast_one, Nat.sub_self, Nat.sub_zero, List.replicate_zero, List.take_zero, List.nil_append, List.append_nil, fillC_zero, Nat.reduceDiv, Nat.reduceAdd, upd_bk, bk_at, getB_zero, getB_succ, modB_zero, modB_succ, rows_lit, repB_zero, repB_succ, List.length_cons, List.length_nil, upd_upd_same, upd_apply, mk_tmp, mk_heap, mk_gen, lookupA, lookupH, List.getD_cons_zero, List.getD_cons_succ, init_two, tops, Bool.true_and, and_self, and_true, true_and, true_or, if_true, if_false, ite_true, ite_false, reduceCtorEq, reduceIte]
    have ek : k = F.length := by omega
    subst ek
    have hge : ¬ (0 : Int) ≤ (F.length : Int) - 1 - (F.length : Nat) := by omega
    have tf : F.reverse.take F.length = F.reverse := List.take_of_length_le (by simp)
    rw [tf] at lk tk ⊢
    simp (config := { maxSteps := 1000000 }) +decide only [NoH, Old, OldL, nilQ, nilA, asgn, nz, RechL, ReY, isNew, stepO, XPost, postN, XOk, updN, updU, isEff, avalue, aeff, ASt.eval, ASt.put, ASt.set, ASt.new, Nat.reduceDiv, Nat.reduceAdd, Int.reduceToNat, absV, absC, scalar, alen, acap, conc, flats, live, blkOf, aload, rd, part?, afieldAddr, afield, aindexAddr, cellsOf, afill, places, abuild, optI, asliceV, asliceS, szOk, srcCells, aappend, acopy, astore, amakeSlice, abuildSlice, snapL, mapO, treeL, AVal.tree, AVal.flatT, isFlat, ares, isFz, afroz, afrozB, lookupA, lookupH, tops, if_true, if_false, reduceCtorEq, forall_const, ite_true, ite_false, implies_true, walkS, tabS, Tryd.results20, eq_false hge, loopW_exit]
    refine ⟨mkG (ghs [(27, 10), (32, 10), (47, 33)] [26, 31, 46]) [(6, .lst (mapC AVal.u8 (nums8 F.reverse)) F.length)] [] G2 50, .step ?_ (.refl _), ?_⟩
    · refine weak_mk rfl (by first | exact Nat.le_refl _ | (simp only [mk_gen]; omega)) ?_ ?_ <;> simp +decide only [w_lookup_nil, w_lookup_cons, ch_ch, ch_lit, lit_ch, wkT, wkH, wkB, WVL, WV_refl', Int.natCast_zero, Int.natCast_add, Int.natCast_one, Nat.sub_self, Nat.sub_zero, List.replicate_zero, List.take_zero, List.nil_append, List.append_nil, fillC_zero, Nat.reduceDiv, Nat.reduceAdd, upd_bk, bk_at, getB_zero, getB_succ, modB_zero, modB_succ, rows_lit, repB_zero, repB_succ, List.length_cons, List.length_nil, upd_upd_same, upd_apply, mk_tmp, mk_heap, mk_gen, lookupA, lookupH, List.getD_cons_zero, List.getD_cons_succ, init_two, tops, Bool.true_and, and_self, and_true, true_and, true_or, if_true, if_false, ite_true, ite_false, reduceCtorEq, reduceIte]
      exact WV_frz rfl rfl rfl (by simp [len_mapC, nums8]) (by rw [List.drop_zero]; exact (List.take_of_length_le (by rw [len_mapC, lk]; exact Nat.le_of_eq (Nat.mul_one _).symm)).symm) (treeL_u8 _)
    have bo : ∀ l : List UInt8, bytesOf (mapC AVal.u8 (nums8 l)) = some (nums8 l) := fun l => by
      induction l with
      | nil => rfl
      | cons c r ih =>
        show (bytesOf (mapC AVal.u8 (nums8 r))).map (((c.toNat : Nat) : Int) :: ·) = _
        rw [ih]
        rfl
    have so : ∀ l : List UInt8, strOfNums (nums8 l) = bt l := fun l => by
      unfold strOfNums bt nums8
      rw [List.map_map]
      congr 2
      conv => rhs; rw [← List.map_id l]
      apply List.map_congr_left
      intro c _
      simp
    have lm : (mapC AVal.u8 (nums8 F.reverse)).length = F.length := by simp [mapC, nums8]
    have cv2 : aconv Tryd.prog 46 9 (.lst (mapC AVal.u8 (nums8 F.reverse)) F.length) = some (.t F.reverse) := by
      unfold aconv
      rw [Tryd.underlying46, Tryd.underlying9]
      show (match Tryd.prog.underlying 5 with | some (.int .u8) => _ | _ => none) = _
      rw [Tryd.underlying5]
      show (if _ then _ else none) = _
      rw [if_pos lm, bo]
      show some (AVal.flat (.string (strOfNums (nums8 F.reverse)))) = _
      rw [so]
    simp (config := { maxSteps := 1000000 }) +decide only [NoH, Old, OldL, nilQ, nilA, asgn, nz, RechL, ReY, isNew, stepO, XPost, postN, XOk, updN, updU, isEff, avalue, aeff, ASt.eval, ASt.put, ASt.set, ASt.new, Nat.reduceDiv, Nat.reduceAdd, Int.reduceToNat, absV, absC, scalar, alen, acap, conc, flats, live, blkOf, aload, rd, part?, afieldAddr, afield, aindexAddr, cellsOf, afill, places, abuild, optI, asliceV, asliceS, szOk, srcCells, aappend, acopy, astore, amakeSlice, abuildSlice, snapL, mapO, treeL, AVal.tree, AVal.flatT, isFlat, ares, isFz, afroz, afrozB, lookupA, lookupH, tops, if_true, if_false, reduceCtorEq, forall_const, ite_true, ite_false, implies_true, walkS, tabS, Tryd.results20, cv2]
  case neg =>
    have eR : R = F := by
      rw [← hF, if_neg hn]
      simp
    subst eR
    have w1 : IntKind.i64.wrap ((R.length : Int) - 1) = (R.length : Int) - 1 := wrap64 (by omega) (by omega)
    simp (config := { maxSteps := 1000000 }) +decide only [NoH, Old, OldL, nilQ, nilA, asgn, nz, RechL, ReY, isNew, stepO, XPost, postN, XOk, updN, updU, isEff, avalue, aeff, ASt.eval, ASt.put, ASt.set, ASt.new, Nat.reduceDiv, Nat.reduceAdd, Int.reduceToNat, absV, absC, scalar, alen, acap, conc, flats, live, blkOf, aload, rd, part?, afieldAddr, afield, aindexAddr, cellsOf, afill, places, abuild, optI, asliceV, asliceS, szOk, srcCells, aappend, acopy, astore, amakeSlice, abuildSlice, snapL, mapO, treeL, AVal.tree, AVal.flatT, isFlat, ares, isFz, afroz, afrozB, lookupA, lookupH, tops, if_true, if_false, reduceCtorEq, forall_const, ite_true, ite_false, implies_true, walkS, tabS, Tryd.results20, eq_true hqI, eq_false hn, w1]
    refine ex_loopW (fun p : {p : Nat × Nat × Nat × Nat // p.1 ≤ R.length} => mkG (ghs [(27, 10), (32, 10), (47, 33)] [26, 31, 46]) [(3, .own 10 p.1.2.1 0 R.length), (6, .own 33 p.1.2.2.1 0 p.1.1), (7, .i ((R.length : Int) - 1 - (p.1.1 : Nat)))] [(10, ⟨p.1.2.1, 1, mapC AVal.u8 (nums8 R)⟩), (33, ⟨p.1.2.2.1, 1, mapC AVal.u8 (nums8 (R.reverse.take p.1.1))⟩)] p.1.2.2.2 50) (fun p => R.length - p.1.1) ⟨(0, g, G, G + 1), Nat.zero_le _⟩ ?_ ?_
    · refine weak_mk rfl (by first | exact Nat.le_refl _ | (simp only [mk_gen]; omega)) ?_ ?_ <;> simp +decide only [w_lookup_nil, w_lookup_cons, ch_ch, ch_lit, lit_ch, wkT, wkH, wkB, WVL, WV_refl', Int.natCast_zero, Int.natCast_add, Int.natCast_one, Nat.sub_self, Nat.sub_zero, List.replicate_zero, List.take_zero, List.nil_append, List.append_nil, fillC_zero, Nat.reduceDiv, Nat.reduceAdd, upd_bk, bk_at, getB_zero, getB_succ, modB_zero, modB_succ, rows_lit, repB_zero, repB_succ, List.length_cons, List.length_nil, upd_upd_same, upd_apply, mk_tmp, mk_heap, mk_gen, lookupA, lookupH, List.getD_cons_zero, List.getD_cons_succ, init_two, tops, Bool.true_and, and_self, and_true, true_and, true_or, if_true, if_false, ite_true, ite_false, reduceCtorEq, reduceIte, nums8, List.map_nil, mapC_nil, Int.sub_zero]
    rintro ⟨⟨k, ga, gb, G2⟩, k1⟩
    have k1' : k ≤ R.length := k1
    have lk : (nums8 (R.reverse.take k)).length = k := by simp [nums8]; omega
    have tk : (nums8 (R.reverse.take k)).take k = nums8 (R.reverse.take k) := List.take_of_length_le (by omega)
    have lFF : (nums8 R).length = R.length := by simp [nums8]
    by_cases hlt : k < R.length
    · have e7 : (R.length : Int) - 1 - (k : Nat) = ((R.length - 1 - k : Nat) : Int) := by omega
      have hx : R.length - 1 - k < R.length := by omega
      have ct : (nums8 R)[R.length - 1 - k]? = some ((R[R.length - 1 - k].toNat : Nat) : Int) := by simp [nums8, hx]
      have ct2 : (mapC AVal.u8 (nums8 R))[R.length - 1 - k]? = some (AVal.flat (.int .u8 ((R[R.length - 1 - k].toNat : Nat) : Int))) := by simp [mapC, nums8, hx, AVal.u8]
      have wk : IntKind.i64.wrap (((R.length - 1 - k : Nat) : Int) - 1) = (R.length : Int) - 1 - ((k + 1 : Nat) : Int) := (wrap64 (by omega) (by omega)).trans (by omega)
      have ts : R.reverse.take (k + 1) = R.reverse.take k ++ [R[R.length - 1 - k]] := by
        rw [List.take_succ_eq_append_getElem (by simpa using hlt), List.getElem_reverse]
      have sn : mapC AVal.u8 (nums8 (R.reverse.take k)) ++ [AVal.flat (.int .u8 ((R[R.length - 1 - k].toNat : Nat) : Int))] = mapC AVal.u8 (nums8 (R.reverse.take (k + 1))) := by
        rw [ts]
        simp [mapC, nums8, AVal.u8]
      have hk8 : k + 1 ≤ 140737488355328 := by omega
      simp (config := { maxSteps := 1000000 }) +decide only [NoH, Old, OldL, nilQ, nilA, asgn, nz, RechL, ReY, isNew, stepO, XPost, postN, XOk, updN, updU, isEff, avalue, aeff, ASt.eval, ASt.put, ASt.set, ASt.new, Nat.reduceDiv, Nat.reduceAdd, Int.reduceToNat, absV, absC, scalar, alen, acap, conc, flats, live, blkOf, aload, rd, part?, afieldAddr, afield, aindexAddr, cellsOf, afill, places, abuild, optI, asliceV, asliceS, szOk, srcCells, aappend, acopy, astore, amakeSlice, abuildSlice, snapL, mapO, treeL, AVal.tree, AVal.flatT, isFlat, ares, isFz, afroz, afrozB, lookupA, lookupH, tops, if_true, if_false, reduceCtorEq, forall_const, ite_true, ite_false, implies_true, walkS, tabS, Tryd.results20, e7, hx, ct, ct2, lFF, lk, tk, fl, sn, hk8, wk, List.length_cons, List.length_nil, List.take_succ_cons, List.take_zero]
      refine ⟨⟨(k + 1, ga, G2, G2 + 1), hlt⟩, ?_, by show R.length - (k + 1) < R.length - k; omega⟩
      refine weak_mk rfl (by first | exact Nat.le_refl _ | (simp only [mk_gen]; omega)) ?_ ?_ <;> simp +decide only [w_lookup_nil, w_lookup_cons, ch_ch, ch_lit, lit_ch, wkT, wkH, wkB, WVL, WV_refl', Int.natCast_zero, Int.natCast_add, Int.natCast_one, Nat.sub_self, Nat.sub_zero, List.replicate_zero, List.take_zero, List.nil_append, List.append_nil, fillC_zero, Nat.reduceDiv, Nat.reduceAdd, upd_bk, bk_at, getB_zero, getB_succ, modB_zero, modB_succ, rows_lit, repB_zero, repB_succ, List.length_cons, List.length_nil, upd_upd_same, upd_apply, mk_tmp, mk_heap, mk_gen, lookupA, lookupH, List.getD_cons_zero, List.getD_cons_succ, init_two, tops, Bool.true_and, and_self, and_true, true_and, true_or, if_true, if_false, ite_true, ite_false, reduceCtorEq, reduceIte]
    have ek : k = R.length := by omega
    subst ek
    have hge : ¬ (0 : Int) ≤ (R.length : Int) - 1 - (R.length : Nat) := by omega
    have tf : R.reverse.take R.length = R.reverse := List.take_of_length_le (by simp)
    rw [tf] at lk tk ⊢
    simp (config := { maxSteps := 1000000 }) +decide only [NoH, Old, OldL, nilQ, nilA, asgn, nz, RechL, ReY, isNew, stepO, XPost, postN, XOk, updN, updU, isEff, avalue, aeff, ASt.eval, ASt.put, ASt.set, ASt.new, Nat.reduceDiv, Nat.reduceAdd, Int.reduceToNat, absV, absC, scalar, alen, acap, conc, flats, live, blkOf, aload, rd, part?, afieldAddr, afield, aindexAddr, cellsOf, afill, places, abuild, optI, asliceV, asliceS, szOk, srcCells, aappend, acopy, astore, amakeSlice, abuildSlice, snapL, mapO, treeL, AVal.tree, AVal.flatT, isFlat, ares, isFz, afroz, afrozB, lookupA, lookupH, tops, if_true, if_false, reduceCtorEq, forall_const, ite_true, ite_false, implies_true, walkS, tabS, Tryd.results20, eq_false hge, loopW_exit]
    refine ⟨mkG (ghs [(27, 10), (32, 10), (47, 33)] [26, 31, 46]) [(6, .lst (mapC AVal.u8 (nums8 R.reverse)) R.length)] [] G2 50, .step ?_ (.refl _), ?_⟩
    · refine weak_mk rfl (by first | exact Nat.le_refl _ | (simp only [mk_gen]; omega)) ?_ ?_ <;> simp +decide only [w_lookup_nil, w_lookup_cons, ch_ch, ch_lit, lit_ch, wkT, wkH, wkB, WVL, WV_refl', Int.natCast_zero, Int.natCast_add, Int.natCast_one, Nat.sub_self, Nat.sub_zero, List.replicate_zero, List.take_zero, List.nil_append, List.append_nil, fillC_zero, Nat.reduceDiv, Nat.reduceAdd, upd_bk, bk_at, getB_zero, getB_succ, modB_zero, modB_succ, rows_lit, repB_zero, repB_succ, List.length_cons, List.length_nil, upd_upd_same, upd_apply, mk_tmp, mk_heap, mk_gen, lookupA, lookupH, List.getD_cons_zero, List.getD_cons_succ, init_two, tops, Bool.true_and, and_self, and_true, true_and, true_or, if_true, if_false, ite_true, ite_false, reduceCtorEq, reduceIte]
      exact WV_frz rfl rfl rfl (by simp [len_mapC, nums8]) (by rw [List.drop_zero]; exact (List.take_of_length_le (by rw [len_mapC, lk]; exact Nat.le_of_eq (Nat.mul_one _).symm)).symm) (treeL_u8 _)
    have bo : ∀ l : List UInt8, bytesOf (mapC AVal.u8 (nums8 l)) = some (nums8 l) := fun l => by
      induction l with
      | nil => rfl
      | cons c r ih =>
        show (bytesOf (mapC AVal.u8 (nums8 r))).map (((c.toNat : Nat) : Int) :: ·) = _
        rw [ih]
        rfl
    have so : ∀ l : List UInt8, strOfNums (nums8 l) = bt l := fun l => by
      unfold strOfNums bt nums8
      rw [List.map_map]
      congr 2
      conv => rhs; rw [← List.map_id l]
      apply List.map_congr_left
      intro c _
      simp
    have lm : (mapC AVal.u8 (nums8 R.reverse)).length = R.length := by simp [mapC, nums8]
    have cv2 : aconv Tryd.prog 46 9 (.lst (mapC AVal.u8 (nums8 R.reverse)) R.length) = some (.t R.reverse) := by
      unfold aconv
      rw [Tryd.underlying46, Tryd.underlying9]
      show (match Tryd.prog.underlying 5 with | some (.int .u8) => _ | _ => none) = _
      rw [Tryd.underlying5]
      show (if _ then _ else none) = _
      rw [if_pos lm, bo]
      show some (AVal.flat (.string (strOfNums (nums8 R.reverse)))) = _
      rw [so]
    simp (config := { maxSteps := 1000000 }) +decide only [NoH, Old, OldL, nilQ, nilA, asgn, nz, RechL, ReY, isNew, stepO, XPost, postN, XOk, updN, updU, isEff, avalue, aeff, ASt.eval, ASt.put, ASt.set, ASt.new, Nat.reduceDiv, Nat.reduceAdd, Int.reduceToNat, absV, absC, scalar, alen, acap, conc, flats, live, blkOf, aload, rd, part?, afieldAddr, afield, aindexAddr, cellsOf, afill, places, abuild, optI, asliceV, asliceS, szOk, srcCells, aappend, acopy, astore, amakeSlice, abuildSlice, snapL, mapO, treeL, AVal.tree, AVal.flatT, isFlat, ares, isFz, afroz, afrozB, lookupA, lookupH, tops, if_true, if_false, reduceCtorEq, forall_const, ite_true, ite_false, implies_true, walkS, tabS, Tryd.results20, cv2]
end Go.Proofs.YtnklfhjpigameaaDoor
