/-
  OWN WORK: the reference's numbers.
-/
import Derived.Test.YtiaemddmkmfijaaDoorRrD
namespace Go.Proofs.YtiaemddmkmfijaaDoor
open Go Go.Own Go.Proofs
set_option maxHeartbeats 4000000
set_option maxRecDepth 20000
set_option linter.unusedSimpArgs false
set_option linter.unusedVariables false
def DigB (n : Int) : Prop := 48 ≤ n ∧ n ≤ 57
theorem den_l01DigitB (c : Int) : Den Tryd.prog 96 [.flat (.int .u8 c)] (.b (bp (DigB c))) := by
  refine den_of_awp Tryd.func96 rfl (by kernel_rfl) (Nat.le_of_ble_eq_true rfl) (by simp only [treeL, AVal.tree, treeL_i, treeL_ints, treeL_u8, treeL_append, Bool.and_self, Bool.and_true, Bool.true_and]) (by first | rfl | simp only [treeL, AVal.tree, treeL_i, treeL_ints, treeL_u8, treeL_append, Bool.and_self, Bool.and_true, Bool.true_and]) mixed (by kernel_rfl) fun hl => ?_
  simp only [lensL, lens, lensL_i, lensL_mapC, maxI, and_true, true_and] at hl
  rw [Tryd.ntmps96]
  refine ex_start ?_
  unfold DigB
  by_cases a : 48 ≤ c
  · by_cases b : c ≤ 57
    · simp (config := { maxSteps := 1000000 }) +decide only [NoH, Old, OldL, nilQ, nilA, asgn, nz, RechL, ReY, isNew, stepO, XPost, postN, XOk, updN, updU, isEff, avalue, aeff, ASt.eval, ASt.put, ASt.set, ASt.new, Nat.reduceDiv, Nat.reduceAdd, Int.reduceToNat, absV, absC, scalar, alen, acap, conc, flats, live, blkOf, aload, rd, part?, afieldAddr, afield, aindexAddr, cellsOf, afill, places, abuild, optI, asliceV, asliceS, szOk, srcCells, aappend, acopy, astore, amakeSlice, abuildSlice, snapL, mapO, treeL, AVal.tree, AVal.flatT, isFlat, ares, isFz, afroz, afrozB, lookupA, lookupH, tops, if_true, if_false, reduceCtorEq, forall_const, ite_true, ite_false, implies_true, walkS, tabS, Tryd.results96, eq_true a, eq_true b]
    · simp (config := { maxSteps := 1000000 }) +decide only [NoH, Old, OldL, nilQ, nilA, asgn, nz, RechL, ReY, isNew, stepO, XPost, postN, XOk, updN, updU, isEff, avalue, aeff, ASt.eval, ASt.put, ASt.set, ASt.new, Nat.reduceDiv, Nat.reduceAdd, Int.reduceToNat, absV, absC, scalar, alen, acap, conc, flats, live, blkOf, aload, rd, part?, afieldAddr, afield, aindexAddr, cellsOf, afill, places, abuild, optI, asliceV, asliceS, szOk, srcCells, aappend, acopy, astore, amakeSlice, abuildSlice, snapL, mapO, treeL, AVal.tree, AVal.flatT, isFlat, ares, isFz, afroz, afrozB, lookupA, lookupH, tops, if_true, if_false, reduceCtorEq, forall_const, ite_true, ite_false, implies_true, walkS, tabS, Tryd.results96, eq_true a, eq_false b, and_false]
  · simp (config := { maxSteps := 1000000 }) +decide only [NoH, Old, OldL, nilQ, nilA, asgn, nz, RechL, ReY, isNew, stepO, XPost, postN, XOk, updN, updU, isEff, avalue, aeff, ASt.eval, ASt.put, ASt.set, ASt.new, Nat.reduceDiv, Nat.reduceAdd, Int.reduceToNat, absV, absC, scalar, alen, acap, conc, flats, live, blkOf, aload, rd, part?, afieldAddr, afield, aindexAddr, cellsOf, afill, places, abuild, optI, asliceV, asliceS, szOk, srcCells, aappend, acopy, astore, amakeSlice, abuildSlice, snapL, mapO, treeL, AVal.tree, AVal.flatT, isFlat, ares, isFz, afroz, afrozB, lookupA, lookupH, tops, if_true, if_false, reduceCtorEq, forall_const, ite_true, ite_false, implies_true, walkS, tabS, Tryd.results96, eq_false a, false_and]
/-- the digits of a number, s the length of its sign -/
structure DigOk (s : Nat) (D : List UInt8) : Prop where
  ne : D ≠ []
  len : D.length ≤ 18
  one : ¬ (D.head? = some 48 ∧ 1 < D.length + s)
  dig : ∀ c ∈ D, IsDig c
noncomputable def numR (s : Nat) (D : List UInt8) (v : Int) : Int := @ite _ (DigOk s D) (Classical.propDecidable _) v 0
theorem numR_yes {s : Nat} {D : List UInt8} (h : DigOk s D) (v : Int) : numR s D v = v := if_pos h
theorem numR_no {s : Nat} {D : List UInt8} (h : ¬ DigOk s D) (v : Int) : numR s D v = 0 := if_neg h
theorem dval_lt : ∀ (l : List UInt8) (acc : Nat), (∀ c ∈ l, IsDig c) → dval acc l < (acc + 1) * 10 ^ l.length
  | [], acc, _ => by simp [dval]
  | c :: r, acc, h => by
    have ih := dval_lt r (acc * 10 + (c.toNat - 48)) (fun x hx => h x (by simp [hx]))
    have hc := h c (by simp)
    unfold IsDig at hc
    show dval (acc * 10 + (c.toNat - 48)) r < _
    refine Nat.lt_of_lt_of_le ih ?_
    rw [List.length_cons, Nat.pow_succ]
    have e : (acc + 1) * (10 ^ r.length * 10) = ((acc + 1) * 10) * 10 ^ r.length := by
      rw [Nat.mul_comm (10 ^ r.length) 10, Nat.mul_assoc]
    rw [e]
    exact Nat.mul_le_mul_right _ (by omega)
theorem dval_bound {D : List UInt8} (h : ∀ c ∈ D, IsDig c) (hl : D.length ≤ 18) : dval 0 D < 1000000000000000000 := by
  have h1 := dval_lt D 0 h
  have h2 : 10 ^ D.length ≤ 10 ^ 18 := Nat.pow_le_pow_right (by omega) hl
  simp only [Nat.zero_add, Nat.one_mul] at h1
  have h3 : (10 : Nat) ^ 18 = 1000000000000000000 := by decide
  omega
theorem dval_snoc (l : List UInt8) (c : UInt8) : dval 0 (l ++ [c]) = dval 0 l * 10 + (c.toNat - 48) := by
  unfold dval
  rw [List.foldl_append]
  rfl
theorem den_l01NumberP (T D : List UInt8) (hT : T.length ≤ 2000000) (lT : T.length = D.length + 0) (at_ : ∀ k (hk : k < D.length), T[k]? = some D[k]) (h45 : T[0]? ≠ some 45) (hne : T ≠ []) : Den Tryd.prog 57 [.t T] (.tup [.i (numR 0 D ((dval 0 D : Nat))), .b (bp (DigOk 0 D))]) := by
  have t0 : 0 < T.length := List.length_pos_iff.2 hne
  have t0I : (0 : Int) < (T.length : Int) := by omega
  have ix : ∀ k (hk : k < D.length), semS Tryd.prog (Instr.index 9 (.string (bt T)) (.int .i64 ((k : Nat) : Int))) = some (.flat (.int .u8 (D[k].toNat : Nat))) := fun k hk => by
    have e := at_ k hk
    have hk2 : k < T.length := by omega
    rw [List.getElem?_eq_getElem hk2] at e
    rw [sem_indexT Tryd.prog Tryd.underlying9 T .i64 (k) hk2, Option.some.inj e]
  have ixz := sem_indexT Tryd.prog Tryd.underlying9 T .i64 0 t0
  rw [show ((0 : Nat) : Int) = 0 from rfl] at ixz
  rw [List.getElem?_eq_getElem t0] at h45
  have z45 : ¬ ((T[0].toNat : Nat) : Int) = 45 := by
    intro k
    exact h45 (congrArg some (UInt8.toNat_inj.1 (by show T[0].toNat = 45; omega)))
  by_cases hD : D = []
  · have no : ¬ DigOk 0 D := fun h => h.ne hD
    have l1 : (T.length : Int) = 0 := by
      rw [hD, List.length_nil] at lT
      omega
    rw [numR_no no]
    refine den_of_awp Tryd.func57 rfl (by kernel_rfl) (Nat.le_of_ble_eq_true rfl) (by simp only [treeL, AVal.tree, treeL_i, treeL_ints, treeL_u8, treeL_append, Bool.and_self, Bool.and_true, Bool.true_and]) (by first | rfl | simp only [treeL, AVal.tree, treeL_i, treeL_ints, treeL_u8, treeL_append, Bool.and_self, Bool.and_true, Bool.true_and]) mixed (by kernel_rfl) fun hl => ?_
    simp only [lensL, lens, lensL_i, lensL_mapC, maxI, and_true, true_and] at hl
    rw [Tryd.ntmps57]
    refine ex_start ?_
    simp (config := { maxSteps := 1000000 }) +decide only [NoH, Old, OldL, nilQ, nilA, asgn, nz, RechL, ReY, isNew, stepO, XPost, postN, XOk, updN, updU, isEff, avalue, aeff, ASt.eval, ASt.put, ASt.set, ASt.new, Nat.reduceDiv, Nat.reduceAdd, Int.reduceToNat, absV, absC, scalar, alen, acap, conc, flats, live, blkOf, aload, rd, part?, afieldAddr, afield, aindexAddr, cellsOf, afill, places, abuild, optI, asliceV, asliceS, szOk, srcCells, aappend, acopy, astore, amakeSlice, abuildSlice, snapL, mapO, treeL, AVal.tree, AVal.flatT, isFlat, ares, isFz, afroz, afrozB, lookupA, lookupH, tops, if_true, if_false, reduceCtorEq, forall_const, ite_true, ite_false, implies_true, walkS, tabS, Tryd.results57, bt_size, eq_true t0I, ixz, eq_false z45, eq_true l1, eq_false no]
  have d0 : 0 < D.length := List.length_pos_iff.2 hD
  have e0 : T[0] = D[0] := by
    have := at_ 0 d0
    rw [List.getElem?_eq_getElem t0] at this
    exact Option.some.inj this
  rw [e0] at ixz z45
  have l1 : ¬ (T.length : Int) = 0 := by omega
  have ix0 := ix 0 d0
  rw [show ((0 : Nat) : Int) = 0 from rfl] at ix0
  have ws : IntKind.i64.wrap ((T.length : Int) - 0) = (D.length : Nat) := by
    rw [show (T.length : Int) - 0 = (D.length : Nat) from by omega]
    exact wrap64 (by omega) (by omega)
  by_cases h18 : 18 < D.length
  · have no : ¬ DigOk 0 D := fun h => by have := h.len; omega
    have h18I : (18 : Int) < (D.length : Int) := by omega
    rw [numR_no no]
    refine den_of_awp Tryd.func57 rfl (by kernel_rfl) (Nat.le_of_ble_eq_true rfl) (by simp only [treeL, AVal.tree, treeL_i, treeL_ints, treeL_u8, treeL_append, Bool.and_self, Bool.and_true, Bool.true_and]) (by first | rfl | simp only [treeL, AVal.tree, treeL_i, treeL_ints, treeL_u8, treeL_append, Bool.and_self, Bool.and_true, Bool.true_and]) mixed (by kernel_rfl) fun hl => ?_
    simp only [lensL, lens, lensL_i, lensL_mapC, maxI, and_true, true_and] at hl
    rw [Tryd.ntmps57]
    refine ex_start ?_
    simp (config := { maxSteps := 1000000 }) +decide only [NoH, Old, OldL, nilQ, nilA, asgn, nz, RechL, ReY, isNew, stepO, XPost, postN, XOk, updN, updU, isEff, avalue, aeff, ASt.eval, ASt.put, ASt.set, ASt.new, Nat.reduceDiv, Nat.reduceAdd, Int.reduceToNat, absV, absC, scalar, alen, acap, conc, flats, live, blkOf, aload, rd, part?, afieldAddr, afield, aindexAddr, cellsOf, afill, places, abuild, optI, asliceV, asliceS, szOk, srcCells, aappend, acopy, astore, amakeSlice, abuildSlice, snapL, mapO, treeL, AVal.tree, AVal.flatT, isFlat, ares, isFz, afroz, afrozB, lookupA, lookupH, tops, if_true, if_false, reduceCtorEq, forall_const, ite_true, ite_false, implies_true, walkS, tabS, Tryd.results57, bt_size, eq_true t0I, ixz, eq_false z45, eq_false l1, ws, eq_true h18I, eq_false no]
  have h18I : ¬ (18 : Int) < (D.length : Int) := by omega
  have hh : D.head? = some D[0] := by rw [List.head?_eq_getElem?, List.getElem?_eq_getElem d0]
  by_cases h48 : ((D[0].toNat : Nat) : Int) = 48
  case' pos =>
    have t1 : (1 : Int) < (T.length : Int) ∨ ¬ (1 : Int) < (T.length : Int) := Classical.em _
    rcases t1 with t1 | t1
    case' inl =>
      have no : ¬ DigOk 0 D := fun h => h.one ⟨by rw [hh, show D[0] = 48 from UInt8.toNat_inj.1 (by show D[0].toNat = 48; omega)], by omega⟩
      rw [numR_no no]
      refine den_of_awp Tryd.func57 rfl (by kernel_rfl) (Nat.le_of_ble_eq_true rfl) (by simp only [treeL, AVal.tree, treeL_i, treeL_ints, treeL_u8, treeL_append, Bool.and_self, Bool.and_true, Bool.true_and]) (by first | rfl | simp only [treeL, AVal.tree, treeL_i, treeL_ints, treeL_u8, treeL_append, Bool.and_self, Bool.and_true, Bool.true_and]) mixed (by kernel_rfl) fun hl => ?_
      simp only [lensL, lens, lensL_i, lensL_mapC, maxI, and_true, true_and] at hl
      rw [Tryd.ntmps57]
      refine ex_start ?_
      simp (config := { maxSteps := 1000000 }) +decide only [NoH, Old, OldL, nilQ, nilA, asgn, nz, RechL, ReY, isNew, stepO, XPost, postN, XOk, updN, updU, isEff, avalue, aeff, ASt.eval, ASt.put, ASt.set, ASt.new, Nat.reduceDiv, Nat.reduceAdd, Int.reduceToNat, absV, absC, scalar, alen, acap, conc, flats, live, blkOf, aload, rd, part?, afieldAddr, afield, aindexAddr, cellsOf, afill, places, abuild, optI, asliceV, asliceS, szOk, srcCells, aappend, acopy, astore, amakeSlice, abuildSlice, snapL, mapO, treeL, AVal.tree, AVal.flatT, isFlat, ares, isFz, afroz, afrozB, lookupA, lookupH, tops, if_true, if_false, reduceCtorEq, forall_const, ite_true, ite_false, implies_true, walkS, tabS, Tryd.results57, bt_size, eq_true t0I, ixz, eq_false z45, eq_false l1, ws, eq_false h18I, ix0, eq_true h48, eq_true t1, eq_false no]
    case' inr =>
      have one : ¬ (D.head? = some 48 ∧ 1 < D.length + 0) := fun h => by omega
      refine den_of_awp Tryd.func57 rfl (by kernel_rfl) (Nat.le_of_ble_eq_true rfl) (by simp only [treeL, AVal.tree, treeL_i, treeL_ints, treeL_u8, treeL_append, Bool.and_self, Bool.and_true, Bool.true_and]) (by first | rfl | simp only [treeL, AVal.tree, treeL_i, treeL_ints, treeL_u8, treeL_append, Bool.and_self, Bool.and_true, Bool.true_and]) mixed (by kernel_rfl) fun hl => ?_
      simp only [lensL, lens, lensL_i, lensL_mapC, maxI, and_true, true_and] at hl
      rw [Tryd.ntmps57]
      refine ex_start ?_
      simp (config := { maxSteps := 1000000 }) +decide only [NoH, Old, OldL, nilQ, nilA, asgn, nz, RechL, ReY, isNew, stepO, XPost, postN, XOk, updN, updU, isEff, avalue, aeff, ASt.eval, ASt.put, ASt.set, ASt.new, Nat.reduceDiv, Nat.reduceAdd, Int.reduceToNat, absV, absC, scalar, alen, acap, conc, flats, live, blkOf, aload, rd, part?, afieldAddr, afield, aindexAddr, cellsOf, afill, places, abuild, optI, asliceV, asliceS, szOk, srcCells, aappend, acopy, astore, amakeSlice, abuildSlice, snapL, mapO, treeL, AVal.tree, AVal.flatT, isFlat, ares, isFz, afroz, afrozB, lookupA, lookupH, tops, if_true, if_false, reduceCtorEq, forall_const, ite_true, ite_false, implies_true, walkS, tabS, Tryd.results57, bt_size, eq_true t0I, ixz, eq_false z45, eq_false l1, ws, eq_false h18I, ix0, eq_true h48, eq_false t1]
  case' neg =>
    have one : ¬ (D.head? = some 48 ∧ 1 < D.length + 0) := fun h => h48 (by
      have e := h.1
      rw [hh] at e
      rw [Option.some.inj e]
      rfl)
    refine den_of_awp Tryd.func57 rfl (by kernel_rfl) (Nat.le_of_ble_eq_true rfl) (by simp only [treeL, AVal.tree, treeL_i, treeL_ints, treeL_u8, treeL_append, Bool.and_self, Bool.and_true, Bool.true_and]) (by first | rfl | simp only [treeL, AVal.tree, treeL_i, treeL_ints, treeL_u8, treeL_append, Bool.and_self, Bool.and_true, Bool.true_and]) mixed (by kernel_rfl) fun hl => ?_
    simp only [lensL, lens, lensL_i, lensL_mapC, maxI, and_true, true_and] at hl
    rw [Tryd.ntmps57]
    refine ex_start ?_
    simp (config := { maxSteps := 1000000 }) +decide only [NoH, Old, OldL, nilQ, nilA, asgn, nz, RechL, ReY, isNew, stepO, XPost, postN, XOk, updN, updU, isEff, avalue, aeff, ASt.eval, ASt.put, ASt.set, ASt.new, Nat.reduceDiv, Nat.reduceAdd, Int.reduceToNat, absV, absC, scalar, alen, acap, conc, flats, live, blkOf, aload, rd, part?, afieldAddr, afield, aindexAddr, cellsOf, afill, places, abuild, optI, asliceV, asliceS, szOk, srcCells, aappend, acopy, astore, amakeSlice, abuildSlice, snapL, mapO, treeL, AVal.tree, AVal.flatT, isFlat, ares, isFz, afroz, afrozB, lookupA, lookupH, tops, if_true, if_false, reduceCtorEq, forall_const, ite_true, ite_false, implies_true, walkS, tabS, Tryd.results57, bt_size, eq_true t0I, ixz, eq_false z45, eq_false l1, ws, eq_false h18I, ix0, eq_false h48]
  all_goals
    refine ex_loop (fun p : {k : Nat // k ≤ D.length ∧ ∀ c ∈ D.take k, IsDig c} => mkG (ghs [] []) [(0, .t T), (4, .i 0), (5, .i (dval 0 (D.take p.1) : Nat)), (6, .i ((p.1 : Nat) : Int))] [] 0 62) (fun p => D.length - p.1) ⟨0, Nat.zero_le _, by simp⟩ ?_ ?_
    · have e0 : dval 0 (D.take 0) = 0 := rfl
      have e00 : dval 0 [] = 0 := rfl
      refine weak_mk rfl (by first | exact Nat.le_refl _ | (simp only [mk_gen]; omega)) ?_ ?_ <;> simp +decide only [w_lookup_nil, w_lookup_cons, ch_ch, ch_lit, lit_ch, wkT, wkH, wkB, WVL, WV_refl', Int.natCast_zero, Int.natCast_add, Int.natCast_one, Nat.sub_self, Nat.sub_zero, List.replicate_zero, List.take_zero, List.nil_append, List.append_nil, fillC_zero, Nat.reduceDiv, Nat.reduceAdd, upd_bk, bk_at, getB_zero, getB_succ, modB_zero, modB_succ, rows_lit, repB_zero, repB_succ, List.length_cons, List.length_nil, upd_upd_same, upd_apply, mk_tmp, mk_heap, mk_gen, lookupA, lookupH, List.getD_cons_zero, List.getD_cons_succ, init_two, tops, Bool.true_and, and_self, and_true, true_and, true_or, if_true, if_false, ite_true, ite_false, reduceCtorEq, reduceIte, e0, e00, Int.zero_add]
    rintro ⟨k, hk, hdk⟩
    try simp only [] at hk hdk
    by_cases hlt : k < D.length
    case neg =>
      have ek : k = D.length := by omega
      subst ek
      rw [List.take_length] at hdk
      have ok : DigOk 0 D := ⟨hD, by omega, one, hdk⟩
      have hltI : ¬ (((D.length : Nat) : Int)) < (T.length : Int) := by omega
      have vb := dval_bound hdk (by omega)
      have wn : IntKind.i64.wrap (0 - ((dval 0 D : Nat) : Int)) = -((dval 0 D : Nat) : Int) := by
        rw [Int.zero_sub]
        exact wrap64 (by omega) (by omega)
      rw [numR_yes ok]
      simp (config := { maxSteps := 1000000 }) +decide only [NoH, Old, OldL, nilQ, nilA, asgn, nz, RechL, ReY, isNew, stepO, XPost, postN, XOk, updN, updU, isEff, avalue, aeff, ASt.eval, ASt.put, ASt.set, ASt.new, Nat.reduceDiv, Nat.reduceAdd, Int.reduceToNat, absV, absC, scalar, alen, acap, conc, flats, live, blkOf, aload, rd, part?, afieldAddr, afield, aindexAddr, cellsOf, afill, places, abuild, optI, asliceV, asliceS, szOk, srcCells, aappend, acopy, astore, amakeSlice, abuildSlice, snapL, mapO, treeL, AVal.tree, AVal.flatT, isFlat, ares, isFz, afroz, afrozB, lookupA, lookupH, tops, if_true, if_false, reduceCtorEq, forall_const, ite_true, ite_false, implies_true, walkS, tabS, Tryd.results57, bt_size, eq_false hltI, List.take_length, wn, eq_true ok]
    have hltI : (((k : Nat) : Int)) < (T.length : Int) := by omega
    have wk : IntKind.i64.wrap (((k : Nat) : Int) + 1) = ((k + 1 : Nat) : Int) := wrap64 (by omega) (by omega)
    have ixk := ix k hlt
    have dd := den_l01DigitB ((D[k].toNat : Nat) : Int)
    by_cases hg : DigB ((D[k].toNat : Nat) : Int)
    · have hi : IsDig D[k] := ⟨by have := hg.1; omega, by have := hg.2; omega⟩
      have hi2 := hi
      unfold IsDig at hi2
      have ts : D.take (k + 1) = D.take k ++ [D[k]] := List.take_succ_eq_append_getElem hlt
      have nd : ∀ c ∈ D.take (k + 1), IsDig c := fun c hc => by
        rw [ts] at hc
        rcases List.mem_append.1 hc with e | e
        · exact hdk c e
        · rw [List.mem_singleton.1 e]
          exact hi
      have vb := dval_bound nd (by rw [List.length_take]; omega)
      have vs := dval_snoc (D.take k) D[k]
      rw [← ts] at vs
      have w1 : IntKind.u8.wrap ((D[k].toNat : Int) - 48) = ((D[k].toNat - 48 : Nat) : Int) := by
        rw [show (D[k].toNat : Int) - 48 = ((D[k].toNat - 48 : Nat) : Int) from by omega]
        exact IntWalk.u8_in _ ⟨by omega, by omega⟩
      have w2 : IntKind.i64.wrap (10 * ((dval 0 (D.take k) : Nat) : Int)) = 10 * ((dval 0 (D.take k) : Nat) : Int) := wrap64 (by omega) (by omega)
      have w3 : IntKind.i64.wrap ((D[k].toNat - 48 : Nat) : Int) = ((D[k].toNat - 48 : Nat) : Int) := wrap64 (by omega) (by omega)
      have w4 : IntKind.i64.wrap (10 * ((dval 0 (D.take k) : Nat) : Int) + ((D[k].toNat - 48 : Nat) : Int)) = ((dval 0 (D.take (k + 1)) : Nat) : Int) := by
        rw [vs]
        rw [show 10 * ((dval 0 (D.take k) : Nat) : Int) + ((D[k].toNat - 48 : Nat) : Int) = ((dval 0 (D.take k) * 10 + (D[k].toNat - 48) : Nat) : Int) from by omega]
        exact wrap64 (by omega) (by omega)
      simp (config := { maxSteps := 1000000 }) +decide only [NoH, Old, OldL, nilQ, nilA, asgn, nz, RechL, ReY, isNew, stepO, XPost, postN, XOk, updN, updU, isEff, avalue, aeff, ASt.eval, ASt.put, ASt.set, ASt.new, Nat.reduceDiv, Nat.reduceAdd, Int.reduceToNat, absV, absC, scalar, alen, acap, conc, flats, live, blkOf, aload, rd, part?, afieldAddr, afield, aindexAddr, cellsOf, afill, places, abuild, optI, asliceV, asliceS, szOk, srcCells, aappend, acopy, astore, amakeSlice, abuildSlice, snapL, mapO, treeL, AVal.tree, AVal.flatT, isFlat, ares, isFz, afroz, afrozB, lookupA, lookupH, tops, if_true, if_false, reduceCtorEq, forall_const, ite_true, ite_false, implies_true, walkS, tabS, Tryd.results57, bt_size, eq_true hltI, ixk]
      refine callK (dd) (by first | exact .inl rfl | exact .inr rfl) ?_
      have cv : semS Tryd.prog (convert 5 2 (.int .u8 ((D[k].toNat - 48 : Nat) : Int))) = some (.flat (.int .i64 (IntKind.i64.wrap ((D[k].toNat - 48 : Nat) : Int)))) := sem_conv _ _ (by kernel_rfl) (by kernel_rfl)
      simp (config := { maxSteps := 1000000 }) +decide only [NoH, Old, OldL, nilQ, nilA, asgn, nz, RechL, ReY, isNew, stepO, XPost, postN, XOk, updN, updU, isEff, avalue, aeff, ASt.eval, ASt.put, ASt.set, ASt.new, Nat.reduceDiv, Nat.reduceAdd, Int.reduceToNat, absV, absC, scalar, alen, acap, conc, flats, live, blkOf, aload, rd, part?, afieldAddr, afield, aindexAddr, cellsOf, afill, places, abuild, optI, asliceV, asliceS, szOk, srcCells, aappend, acopy, astore, amakeSlice, abuildSlice, snapL, mapO, treeL, AVal.tree, AVal.flatT, isFlat, ares, isFz, afroz, afrozB, lookupA, lookupH, tops, if_true, if_false, reduceCtorEq, forall_const, ite_true, ite_false, implies_true, walkS, tabS, Tryd.results57, bt_size, cv, eq_true hg, ixk, w1, w2, w3, w4, wk]
      refine ⟨⟨k + 1, hlt, nd⟩, ?_, by show D.length - (k + 1) < D.length - k; omega⟩
      refine weak_mk rfl (by first | exact Nat.le_refl _ | (simp only [mk_gen]; omega)) ?_ ?_ <;> simp +decide only [w_lookup_nil, w_lookup_cons, ch_ch, ch_lit, lit_ch, wkT, wkH, wkB, WVL, WV_refl', Int.natCast_zero, Int.natCast_add, Int.natCast_one, Nat.sub_self, Nat.sub_zero, List.replicate_zero, List.take_zero, List.nil_append, List.append_nil, fillC_zero, Nat.reduceDiv, Nat.reduceAdd, upd_bk, bk_at, getB_zero, getB_succ, modB_zero, modB_succ, rows_lit, repB_zero, repB_succ, List.length_cons, List.length_nil, upd_upd_same, upd_apply, mk_tmp, mk_heap, mk_gen, lookupA, lookupH, List.getD_cons_zero, List.getD_cons_succ, init_two, tops, Bool.true_and, and_self, and_true, true_and, true_or, if_true, if_false, ite_true, ite_false, reduceCtorEq, reduceIte]
    · have no : ¬ DigOk 0 D := fun h => hg ⟨by have := (h.dig _ (List.getElem_mem hlt)).1; omega, by have := (h.dig _ (List.getElem_mem hlt)).2; omega⟩
      rw [numR_no no]
      simp (config := { maxSteps := 1000000 }) +decide only [NoH, Old, OldL, nilQ, nilA, asgn, nz, RechL, ReY, isNew, stepO, XPost, postN, XOk, updN, updU, isEff, avalue, aeff, ASt.eval, ASt.put, ASt.set, ASt.new, Nat.reduceDiv, Nat.reduceAdd, Int.reduceToNat, absV, absC, scalar, alen, acap, conc, flats, live, blkOf, aload, rd, part?, afieldAddr, afield, aindexAddr, cellsOf, afill, places, abuild, optI, asliceV, asliceS, szOk, srcCells, aappend, acopy, astore, amakeSlice, abuildSlice, snapL, mapO, treeL, AVal.tree, AVal.flatT, isFlat, ares, isFz, afroz, afrozB, lookupA, lookupH, tops, if_true, if_false, reduceCtorEq, forall_const, ite_true, ite_false, implies_true, walkS, tabS, Tryd.results57, bt_size, eq_true hltI, ixk]
      refine callK (dd) (by first | exact .inl rfl | exact .inr rfl) ?_
      simp (config := { maxSteps := 1000000 }) +decide only [NoH, Old, OldL, nilQ, nilA, asgn, nz, RechL, ReY, isNew, stepO, XPost, postN, XOk, updN, updU, isEff, avalue, aeff, ASt.eval, ASt.put, ASt.set, ASt.new, Nat.reduceDiv, Nat.reduceAdd, Int.reduceToNat, absV, absC, scalar, alen, acap, conc, flats, live, blkOf, aload, rd, part?, afieldAddr, afield, aindexAddr, cellsOf, afill, places, abuild, optI, asliceV, asliceS, szOk, srcCells, aappend, acopy, astore, amakeSlice, abuildSlice, snapL, mapO, treeL, AVal.tree, AVal.flatT, isFlat, ares, isFz, afroz, afrozB, lookupA, lookupH, tops, if_true, if_false, reduceCtorEq, forall_const, ite_true, ite_false, implies_true, walkS, tabS, Tryd.results57, eq_false hg, eq_false no]
theorem den_l01NumberN (T D : List UInt8) (hT : T.length ≤ 2000000) (lT : T.length = D.length + 1) (at_ : ∀ k (hk : k < D.length), T[k + 1]? = some D[k]) (h45 : T[0]? = some 45) (hne : T ≠ []) : Den Tryd.prog 57 [.t T] (.tup [.i (numR 1 D (-(dval 0 D : Int))), .b (bp (DigOk 1 D))]) := by
  have t0 : 0 < T.length := List.length_pos_iff.2 hne
  have t0I : (0 : Int) < (T.length : Int) := by omega
  have ix : ∀ k (hk : k < D.length), semS Tryd.prog (Instr.index 9 (.string (bt T)) (.int .i64 ((k + 1 : Nat) : Int))) = some (.flat (.int .u8 (D[k].toNat : Nat))) := fun k hk => by
    have e := at_ k hk
    have hk2 : k + 1 < T.length := by omega
    rw [List.getElem?_eq_getElem hk2] at e
    rw [sem_indexT Tryd.prog Tryd.underlying9 T .i64 (k + 1) hk2, Option.some.inj e]
  have ixz := sem_indexT Tryd.prog Tryd.underlying9 T .i64 0 t0
  rw [show ((0 : Nat) : Int) = 0 from rfl] at ixz
  rw [List.getElem?_eq_getElem t0] at h45
  have z45 : ((T[0].toNat : Nat) : Int) = 45 := by
    rw [Option.some.inj h45]
    rfl
  by_cases hD : D = []
  · have no : ¬ DigOk 1 D := fun h => h.ne hD
    have l1 : (T.length : Int) = 1 := by
      rw [hD, List.length_nil] at lT
      omega
    rw [numR_no no]
    refine den_of_awp Tryd.func57 rfl (by kernel_rfl) (Nat.le_of_ble_eq_true rfl) (by simp only [treeL, AVal.tree, treeL_i, treeL_ints, treeL_u8, treeL_append, Bool.and_self, Bool.and_true, Bool.true_and]) (by first | rfl | simp only [treeL, AVal.tree, treeL_i, treeL_ints, treeL_u8, treeL_append, Bool.and_self, Bool.and_true, Bool.true_and]) mixed (by kernel_rfl) fun hl => ?_
    simp only [lensL, lens, lensL_i, lensL_mapC, maxI, and_true, true_and] at hl
    rw [Tryd.ntmps57]
    refine ex_start ?_
    simp (config := { maxSteps := 1000000 }) +decide only [NoH, Old, OldL, nilQ, nilA, asgn, nz, RechL, ReY, isNew, stepO, XPost, postN, XOk, updN, updU, isEff, avalue, aeff, ASt.eval, ASt.put, ASt.set, ASt.new, Nat.reduceDiv, Nat.reduceAdd, Int.reduceToNat, absV, absC, scalar, alen, acap, conc, flats, live, blkOf, aload, rd, part?, afieldAddr, afield, aindexAddr, cellsOf, afill, places, abuild, optI, asliceV, asliceS, szOk, srcCells, aappend, acopy, astore, amakeSlice, abuildSlice, snapL, mapO, treeL, AVal.tree, AVal.flatT, isFlat, ares, isFz, afroz, afrozB, lookupA, lookupH, tops, if_true, if_false, reduceCtorEq, forall_const, ite_true, ite_false, implies_true, walkS, tabS, Tryd.results57, bt_size, eq_true t0I, ixz, eq_true z45, eq_true l1, eq_false no]
  have d0 : 0 < D.length := List.length_pos_iff.2 hD
  have l1 : ¬ (T.length : Int) = 1 := by omega
  have ix0 := ix 0 d0
  rw [show ((0 + 1 : Nat) : Int) = 1 from rfl] at ix0
  have ws : IntKind.i64.wrap ((T.length : Int) - 1) = (D.length : Nat) := by
    rw [show (T.length : Int) - 1 = (D.length : Nat) from by omega]
    exact wrap64 (by omega) (by omega)
  by_cases h18 : 18 < D.length
  · have no : ¬ DigOk 1 D := fun h => by have := h.len; omega
    have h18I : (18 : Int) < (D.length : Int) := by omega
    rw [numR_no no]
    refine den_of_awp Tryd.func57 rfl (by kernel_rfl) (Nat.le_of_ble_eq_true rfl) (by simp only [treeL, AVal.tree, treeL_i, treeL_ints, treeL_u8, treeL_append, Bool.and_self, Bool.and_true, Bool.true_and]) (by first | rfl | simp only [treeL, AVal.tree, treeL_i, treeL_ints, treeL_u8, treeL_append, Bool.and_self, Bool.and_true, Bool.true_and]) mixed (by kernel_rfl) fun hl => ?_
    simp only [lensL, lens, lensL_i, lensL_mapC, maxI, and_true, true_and] at hl
    rw [Tryd.ntmps57]
    refine ex_start ?_
    simp (config := { maxSteps := 1000000 }) +decide only [NoH, Old, OldL, nilQ, nilA, asgn, nz, RechL, ReY, isNew, stepO, XPost, postN, XOk, updN, updU, isEff, avalue, aeff, ASt.eval, ASt.put, ASt.set, ASt.new, Nat.reduceDiv, Nat.reduceAdd, Int.reduceToNat, absV, absC, scalar, alen, acap, conc, flats, live, blkOf, aload, rd, part?, afieldAddr, afield, aindexAddr, cellsOf, afill, places, abuild, optI, asliceV, asliceS, szOk, srcCells, aappend, acopy, astore, amakeSlice, abuildSlice, snapL, mapO, treeL, AVal.tree, AVal.flatT, isFlat, ares, isFz, afroz, afrozB, lookupA, lookupH, tops, if_true, if_false, reduceCtorEq, forall_const, ite_true, ite_false, implies_true, walkS, tabS, Tryd.results57, bt_size, eq_true t0I, ixz, eq_true z45, eq_false l1, ws, eq_true h18I, eq_false no]
  have h18I : ¬ (18 : Int) < (D.length : Int) := by omega
  have hh : D.head? = some D[0] := by rw [List.head?_eq_getElem?, List.getElem?_eq_getElem d0]
  by_cases h48 : ((D[0].toNat : Nat) : Int) = 48
  case' pos =>
    have t1 : (1 : Int) < (T.length : Int) ∨ ¬ (1 : Int) < (T.length : Int) := Classical.em _
    rcases t1 with t1 | t1
    case' inl =>
      have no : ¬ DigOk 1 D := fun h => h.one ⟨by rw [hh, show D[0] = 48 from UInt8.toNat_inj.1 (by show D[0].toNat = 48; omega)], by omega⟩
      rw [numR_no no]
      refine den_of_awp Tryd.func57 rfl (by kernel_rfl) (Nat.le_of_ble_eq_true rfl) (by simp only [treeL, AVal.tree, treeL_i, treeL_ints, treeL_u8, treeL_append, Bool.and_self, Bool.and_true, Bool.true_and]) (by first | rfl | simp only [treeL, AVal.tree, treeL_i, treeL_ints, treeL_u8, treeL_append, Bool.and_self, Bool.and_true, Bool.true_and]) mixed (by kernel_rfl) fun hl => ?_
      simp only [lensL, lens, lensL_i, lensL_mapC, maxI, and_true, true_and] at hl
      rw [Tryd.ntmps57]
      refine ex_start ?_
      simp (config := { maxSteps := 1000000 }) +decide only [NoH, Old, OldL, nilQ, nilA, asgn, nz, RechL, ReY, isNew, stepO, XPost, postN, XOk, updN, updU, isEff, avalue, aeff, ASt.eval, ASt.put, ASt.set, ASt.new, Nat.reduceDiv, Nat.reduceAdd, Int.reduceToNat, absV, absC, scalar, alen, acap, conc, flats, live, blkOf, aload, rd, part?, afieldAddr, afield, aindexAddr, cellsOf, afill, places, abuild, optI, asliceV, asliceS, szOk, srcCells, aappend, acopy, astore, amakeSlice, abuildSlice, snapL, mapO, treeL, AVal.tree, AVal.flatT, isFlat, ares, isFz, afroz, afrozB, lookupA, lookupH, tops, if_true, if_false, reduceCtorEq, forall_const, ite_true, ite_false, implies_true, walkS, tabS, Tryd.results57, bt_size, eq_true t0I, ixz, eq_true z45, eq_false l1, ws, eq_false h18I, ix0, eq_true h48, eq_true t1, eq_false no]
    case' inr =>
      have one : ¬ (D.head? = some 48 ∧ 1 < D.length + 1) := fun h => by omega
      refine den_of_awp Tryd.func57 rfl (by kernel_rfl) (Nat.le_of_ble_eq_true rfl) (by simp only [treeL, AVal.tree, treeL_i, treeL_ints, treeL_u8, treeL_append, Bool.and_self, Bool.and_true, Bool.true_and]) (by first | rfl | simp only [treeL, AVal.tree, treeL_i, treeL_ints, treeL_u8, treeL_append, Bool.and_self, Bool.and_true, Bool.true_and]) mixed (by kernel_rfl) fun hl => ?_
      simp only [lensL, lens, lensL_i, lensL_mapC, maxI, and_true, true_and] at hl
      rw [Tryd.ntmps57]
      refine ex_start ?_
      simp (config := { maxSteps := 1000000 }) +decide only [NoH, Old, OldL, nilQ, nilA, asgn, nz, RechL, ReY, isNew, stepO, XPost, postN, XOk, updN, updU, isEff, avalue, aeff, ASt.eval, ASt.put, ASt.set, ASt.new, Nat.reduceDiv, Nat.reduceAdd, Int.reduceToNat, absV, absC, scalar, alen, acap, conc, flats, live, blkOf, aload, rd, part?, afieldAddr, afield, aindexAddr, cellsOf, afill, places, abuild, optI, asliceV, asliceS, szOk, srcCells, aappend, acopy, astore, amakeSlice, abuildSlice, snapL, mapO, treeL, AVal.tree, AVal.flatT, isFlat, ares, isFz, afroz, afrozB, lookupA, lookupH, tops, if_true, if_false, reduceCtorEq, forall_const, ite_true, ite_false, implies_true, walkS, tabS, Tryd.results57, bt_size, eq_true t0I, ixz, eq_true z45, eq_false l1, ws, eq_false h18I, ix0, eq_true h48, eq_false t1]
  case' neg =>
    have one : ¬ (D.head? = some 48 ∧ 1 < D.length + 1) := fun h => h48 (by
      have e := h.1
      rw [hh] at e
      rw [Option.some.inj e]
      rfl)
    refine den_of_awp Tryd.func57 rfl (by kernel_rfl) (Nat.le_of_ble_eq_true rfl) (by simp only [treeL, AVal.tree, treeL_i, treeL_ints, treeL_u8, treeL_append, Bool.and_self, Bool.and_true, Bool.true_and]) (by first | rfl | simp only [treeL, AVal.tree, treeL_i, treeL_ints, treeL_u8, treeL_append, Bool.and_self, Bool.and_true, Bool.true_and]) mixed (by kernel_rfl) fun hl => ?_
    simp only [lensL, lens, lensL_i, lensL_mapC, maxI, and_true, true_and] at hl
    rw [Tryd.ntmps57]
    refine ex_start ?_
    simp (config := { maxSteps := 1000000 }) +decide only [NoH, Old, OldL, nilQ, nilA, asgn, nz, RechL, ReY, isNew, stepO, XPost, postN, XOk, updN, updU, isEff, avalue, aeff, ASt.eval, ASt.put, ASt.set, ASt.new, Nat.reduceDiv, Nat.reduceAdd, Int.reduceToNat, absV, absC, scalar, alen, acap, conc, flats, live, blkOf, aload, rd, part?, afieldAddr, afield, aindexAddr, cellsOf, afill, places, abuild, optI, asliceV, asliceS, szOk, srcCells, aappend, acopy, astore, amakeSlice, abuildSlice, snapL, mapO, treeL, AVal.tree, AVal.flatT, isFlat, ares, isFz, afroz, afrozB, lookupA, lookupH, tops, if_true, if_false, reduceCtorEq, forall_const, ite_true, ite_false, implies_true, walkS, tabS, Tryd.results57, bt_size, eq_true t0I, ixz, eq_true z45, eq_false l1, ws, eq_false h18I, ix0, eq_false h48]
  all_goals
    refine ex_loop (fun p : {k : Nat // k ≤ D.length ∧ ∀ c ∈ D.take k, IsDig c} => mkG (ghs [] []) [(0, .t T), (4, .i 1), (5, .i (dval 0 (D.take p.1) : Nat)), (6, .i ((p.1 + 1 : Nat) : Int))] [] 0 62) (fun p => D.length - p.1) ⟨0, Nat.zero_le _, by simp⟩ ?_ ?_
    · have e0 : dval 0 (D.take 0) = 0 := rfl
      have e00 : dval 0 [] = 0 := rfl
      refine weak_mk rfl (by first | exact Nat.le_refl _ | (simp only [mk_gen]; omega)) ?_ ?_ <;> simp +decide only [w_lookup_nil, w_lookup_cons, ch_ch, ch_lit, lit_ch, wkT, wkH, wkB, WVL, WV_refl', Int.natCast_zero, Int.natCast_add, Int.natCast_one, Nat.sub_self, Nat.sub_zero, List.replicate_zero, List.take_zero, List.nil_append, List.append_nil, fillC_zero, Nat.reduceDiv, Nat.reduceAdd, upd_bk, bk_at, getB_zero, getB_succ, modB_zero, modB_succ, rows_lit, repB_zero, repB_succ, List.length_cons, List.length_nil, upd_upd_same, upd_apply, mk_tmp, mk_heap, mk_gen, lookupA, lookupH, List.getD_cons_zero, List.getD_cons_succ, init_two, tops, Bool.true_and, and_self, and_true, true_and, true_or, if_true, if_false, ite_true, ite_false, reduceCtorEq, reduceIte, e0, e00, Int.zero_add]
    rintro ⟨k, hk, hdk⟩
    try simp only [] at hk hdk
    by_cases hlt : k < D.length
    case neg =>
      have ek : k = D.length := by omega
      subst ek
      rw [List.take_length] at hdk
      have ok : DigOk 1 D := ⟨hD, by omega, one, hdk⟩
      have hltI : ¬ (((D.length + 1 : Nat) : Int)) < (T.length : Int) := by omega
      have vb := dval_bound hdk (by omega)
      have wn : IntKind.i64.wrap (0 - ((dval 0 D : Nat) : Int)) = -((dval 0 D : Nat) : Int) := by
        rw [Int.zero_sub]
        exact wrap64 (by omega) (by omega)
      rw [numR_yes ok]
      simp (config := { maxSteps := 1000000 }) +decide only [NoH, Old, OldL, nilQ, nilA, asgn, nz, RechL, ReY, isNew, stepO, XPost, postN, XOk, updN, updU, isEff, avalue, aeff, ASt.eval, ASt.put, ASt.set, ASt.new, Nat.reduceDiv, Nat.reduceAdd, Int.reduceToNat, absV, absC, scalar, alen, acap, conc, flats, live, blkOf, aload, rd, part?, afieldAddr, afield, aindexAddr, cellsOf, afill, places, abuild, optI, asliceV, asliceS, szOk, srcCells, aappend, acopy, astore, amakeSlice, abuildSlice, snapL, mapO, treeL, AVal.tree, AVal.flatT, isFlat, ares, isFz, afroz, afrozB, lookupA, lookupH, tops, if_true, if_false, reduceCtorEq, forall_const, ite_true, ite_false, implies_true, walkS, tabS, Tryd.results57, bt_size, eq_false hltI, List.take_length, wn, eq_true ok]
    have hltI : (((k + 1 : Nat) : Int)) < (T.length : Int) := by omega
    have wk : IntKind.i64.wrap (((k + 1 : Nat) : Int) + 1) = ((k + 1 + 1 : Nat) : Int) := wrap64 (by omega) (by omega)
    have ixk := ix k hlt
    have dd := den_l01DigitB ((D[k].toNat : Nat) : Int)
    by_cases hg : DigB ((D[k].toNat : Nat) : Int)
    · have hi : IsDig D[k] := ⟨by have := hg.1; omega, by have := hg.2; omega⟩
      have hi2 := hi
      unfold IsDig at hi2
      have ts : D.take (k + 1) = D.take k ++ [D[k]] := List.take_succ_eq_append_getElem hlt
      have nd : ∀ c ∈ D.take (k + 1), IsDig c := fun c hc => by
        rw [ts] at hc
        rcases List.mem_append.1 hc with e | e
        · exact hdk c e
        · rw [List.mem_singleton.1 e]
          exact hi
      have vb := dval_bound nd (by rw [List.length_take]; omega)
      have vs := dval_snoc (D.take k) D[k]
      rw [← ts] at vs
      have w1 : IntKind.u8.wrap ((D[k].toNat : Int) - 48) = ((D[k].toNat - 48 : Nat) : Int) := by
        rw [show (D[k].toNat : Int) - 48 = ((D[k].toNat - 48 : Nat) : Int) from by omega]
        exact IntWalk.u8_in _ ⟨by omega, by omega⟩
      have w2 : IntKind.i64.wrap (10 * ((dval 0 (D.take k) : Nat) : Int)) = 10 * ((dval 0 (D.take k) : Nat) : Int) := wrap64 (by omega) (by omega)
      have w3 : IntKind.i64.wrap ((D[k].toNat - 48 : Nat) : Int) = ((D[k].toNat - 48 : Nat) : Int) := wrap64 (by omega) (by omega)
      have w4 : IntKind.i64.wrap (10 * ((dval 0 (D.take k) : Nat) : Int) + ((D[k].toNat - 48 : Nat) : Int)) = ((dval 0 (D.take (k + 1)) : Nat) : Int) := by
        rw [vs]
        rw [show 10 * ((dval 0 (D.take k) : Nat) : Int) + ((D[k].toNat - 48 : Nat) : Int) = ((dval 0 (D.take k) * 10 + (D[k].toNat - 48) : Nat) : Int) from by omega]
        exact wrap64 (by omega) (by omega)
      simp (config := { maxSteps := 1000000 }) +decide only [NoH, Old, OldL, nilQ, nilA, asgn, nz, RechL, ReY, isNew, stepO, XPost, postN, XOk, updN, updU, isEff, avalue, aeff, ASt.eval, ASt.put, ASt.set, ASt.new, Nat.reduceDiv, Nat.reduceAdd, Int.reduceToNat, absV, absC, scalar, alen, acap, conc, flats, live, blkOf, aload, rd, part?, afieldAddr, afield, aindexAddr, cellsOf, afill, places, abuild, optI, asliceV, asliceS, szOk, srcCells, aappend, acopy, astore, amakeSlice, abuildSlice, snapL, mapO, treeL, AVal.tree, AVal.flatT, isFlat, ares, isFz, afroz, afrozB, lookupA, lookupH, tops, if_true, if_false, reduceCtorEq, forall_const, ite_true, ite_false, implies_true, walkS, tabS, Tryd.results57, bt_size, eq_true hltI, ixk]
      refine callK (dd) (by first | exact .inl rfl | exact .inr rfl) ?_
      have cv : semS Tryd.prog (convert 5 2 (.int .u8 ((D[k].toNat - 48 : Nat) : Int))) = some (.flat (.int .i64 (IntKind.i64.wrap ((D[k].toNat - 48 : Nat) : Int)))) := sem_conv _ _ (by kernel_rfl) (by kernel_rfl)
      simp (config := { maxSteps := 1000000 }) +decide only [NoH, Old, OldL, nilQ, nilA, asgn, nz, RechL, ReY, isNew, stepO, XPost, postN, XOk, updN, updU, isEff, avalue, aeff, ASt.eval, ASt.put, ASt.set, ASt.new, Nat.reduceDiv, Nat.reduceAdd, Int.reduceToNat, absV, absC, scalar, alen, acap, conc, flats, live, blkOf, aload, rd, part?, afieldAddr, afield, aindexAddr, cellsOf, afill, places, abuild, optI, asliceV, asliceS, szOk, srcCells, aappend, acopy, astore, amakeSlice, abuildSlice, snapL, mapO, treeL, AVal.tree, AVal.flatT, isFlat, ares, isFz, afroz, afrozB, lookupA, lookupH, tops, if_true, if_false, reduceCtorEq, forall_const, ite_true, ite_false, implies_true, walkS, tabS, Tryd.results57, bt_size, cv, eq_true hg, ixk, w1, w2, w3, w4, wk]
      refine ⟨⟨k + 1, hlt, nd⟩, ?_, by show D.length - (k + 1) < D.length - k; omega⟩
      refine weak_mk rfl (by first | exact Nat.le_refl _ | (simp only [mk_gen]; omega)) ?_ ?_ <;> simp +decide only [w_lookup_nil, w_lookup_cons, ch_ch, ch_lit, lit_ch, wkT, wkH, wkB, WVL, WV_refl', Int.natCast_zero, Int.natCast_add, Int.natCast_one, Nat.sub_self, Nat.sub_zero, List.replicate_zero, List.take_zero, List.nil_append, List.append_nil, fillC_zero, Nat.reduceDiv, Nat.reduceAdd, upd_bk, bk_at, getB_zero, getB_succ, modB_zero, modB_succ, rows_lit, repB_zero, repB_succ, List.length_cons, List.length_nil, upd_upd_same, upd_apply, mk_tmp, mk_heap, mk_gen, lookupA, lookupH, List.getD_cons_zero, List.getD_cons_succ, init_two, tops, Bool.true_and, and_self, and_true, true_and, true_or, if_true, if_false, ite_true, ite_false, reduceCtorEq, reduceIte]
    · have no : ¬ DigOk 1 D := fun h => hg ⟨by have := (h.dig _ (List.getElem_mem hlt)).1; omega, by have := (h.dig _ (List.getElem_mem hlt)).2; omega⟩
      rw [numR_no no]
      simp (config := { maxSteps := 1000000 }) +decide only [NoH, Old, OldL, nilQ, nilA, asgn, nz, RechL, ReY, isNew, stepO, XPost, postN, XOk, updN, updU, isEff, avalue, aeff, ASt.eval, ASt.put, ASt.set, ASt.new, Nat.reduceDiv, Nat.reduceAdd, Int.reduceToNat, absV, absC, scalar, alen, acap, conc, flats, live, blkOf, aload, rd, part?, afieldAddr, afield, aindexAddr, cellsOf, afill, places, abuild, optI, asliceV, asliceS, szOk, srcCells, aappend, acopy, astore, amakeSlice, abuildSlice, snapL, mapO, treeL, AVal.tree, AVal.flatT, isFlat, ares, isFz, afroz, afrozB, lookupA, lookupH, tops, if_true, if_false, reduceCtorEq, forall_const, ite_true, ite_false, implies_true, walkS, tabS, Tryd.results57, bt_size, eq_true hltI, ixk]
      refine callK (dd) (by first | exact .inl rfl | exact .inr rfl) ?_
      simp (config := { maxSteps := 1000000 }) +decide only [NoH, Old, OldL, nilQ, nilA, asgn, nz, RechL, ReY, isNew, stepO, XPost, postN, XOk, updN, updU, isEff, avalue, aeff, ASt.eval, ASt.put, ASt.set, ASt.new, Nat.reduceDiv, Nat.reduceAdd, Int.reduceToNat, absV, absC, scalar, alen, acap, conc, flats, live, blkOf, aload, rd, part?, afieldAddr, afield, aindexAddr, cellsOf, afill, places, abuild, optI, asliceV, asliceS, szOk, srcCells, aappend, acopy, astore, amakeSlice, abuildSlice, snapL, mapO, treeL, AVal.tree, AVal.flatT, isFlat, ares, isFz, afroz, afrozB, lookupA, lookupH, tops, if_true, if_false, reduceCtorEq, forall_const, ite_true, ite_false, implies_true, walkS, tabS, Tryd.results57, eq_false hg, eq_false no]
/-- the length of the sign, the digits -/
def sgn (T : List UInt8) : Nat := if T[0]? = some 45 then 1 else 0
def NumOk (T : List UInt8) : Prop := DigOk (sgn T) (T.drop (sgn T))
noncomputable def numV (T : List UInt8) : Int := numR (sgn T) (T.drop (sgn T)) (if T[0]? = some 45 then -(dval 0 (T.drop (sgn T)) : Int) else (dval 0 (T.drop (sgn T)) : Nat))
theorem den_l01Number (T : List UInt8) (hT : T.length ≤ 2000000) : Den Tryd.prog 57 [.t T] (.tup [.i (numV T), .b (bp (NumOk T))]) := by
  by_cases hne : T = []
  · subst hne
    have no : ¬ NumOk [] := fun h => h.ne rfl
    have v0 : numV [] = 0 := numR_no no _
    rw [v0]
    refine den_of_awp Tryd.func57 rfl (by kernel_rfl) (Nat.le_of_ble_eq_true rfl) (by simp only [treeL, AVal.tree, treeL_i, treeL_ints, treeL_u8, treeL_append, Bool.and_self, Bool.and_true, Bool.true_and]) (by first | rfl | simp only [treeL, AVal.tree, treeL_i, treeL_ints, treeL_u8, treeL_append, Bool.and_self, Bool.and_true, Bool.true_and]) mixed (by kernel_rfl) fun hl => ?_
    simp only [lensL, lens, lensL_i, lensL_mapC, maxI, and_true, true_and] at hl
    rw [Tryd.ntmps57]
    refine ex_start ?_
    simp (config := { maxSteps := 1000000 }) +decide only [NoH, Old, OldL, nilQ, nilA, asgn, nz, RechL, ReY, isNew, stepO, XPost, postN, XOk, updN, updU, isEff, avalue, aeff, ASt.eval, ASt.put, ASt.set, ASt.new, Nat.reduceDiv, Nat.reduceAdd, Int.reduceToNat, absV, absC, scalar, alen, acap, conc, flats, live, blkOf, aload, rd, part?, afieldAddr, afield, aindexAddr, cellsOf, afill, places, abuild, optI, asliceV, asliceS, szOk, srcCells, aappend, acopy, astore, amakeSlice, abuildSlice, snapL, mapO, treeL, AVal.tree, AVal.flatT, isFlat, ares, isFz, afroz, afrozB, lookupA, lookupH, tops, if_true, if_false, reduceCtorEq, forall_const, ite_true, ite_false, implies_true, walkS, tabS, Tryd.results57, bt_size, eq_false no]
  have t0 : 0 < T.length := List.length_pos_iff.2 hne
  unfold numV NumOk
  by_cases h45 : T[0]? = some 45
  · have e : sgn T = 1 := if_pos h45
    rw [e, if_pos h45]
    exact den_l01NumberN T (T.drop 1) hT (by rw [List.length_drop]; omega) (fun k hk => by
      rw [← List.getElem?_eq_getElem hk, List.getElem?_drop, Nat.add_comm]) h45 hne
  · have e : sgn T = 0 := if_neg h45
    rw [e, if_neg h45]
    exact den_l01NumberP T (T.drop 0) hT (by simp) (fun k hk => by
      rw [← List.getElem?_eq_getElem hk]
      simp) h45 hne
theorem dig_back {c : UInt8} (h : IsDig c) : UInt8.ofNat (48 + (c.toNat - 48)) = c := by
  unfold IsDig at h
  rw [show 48 + (c.toNat - 48) = c.toNat from by omega]
  exact UInt8.ofNat_toNat
theorem dval_pos {l : List UInt8} (h : ∀ c ∈ l, IsDig c) (h0 : l ≠ []) (h48 : l.head? ≠ some 48) : 0 < dval 0 l := by
  match l, h0 with
  | c :: r, _ =>
    have hc := h c (by simp)
    unfold IsDig at hc
    have n48 : c.toNat ≠ 48 := fun e => h48 (congrArg some (UInt8.toNat_inj.1 (by show c.toNat = 48; omega)))
    have g := dval_ge r (0 * 10 + (c.toNat - 48))
    show 0 < dval (0 * 10 + (c.toNat - 48)) r
    omega
theorem dec_dval : ∀ (n : Nat) (l : List UInt8), l.length = n → (∀ c ∈ l, IsDig c) → l ≠ [] → (l.head? ≠ some 48 ∨ l.length = 1) → Lib.decDigits (dval 0 l) = l
  | 0, l, hn, _, h0, _ => absurd (List.length_eq_zero_iff.1 hn) h0
  | n + 1, l, hn, hd, h0, hh => by
    obtain ⟨q, c, rfl⟩ : ∃ q c, l = q ++ [c] := ⟨l.dropLast, l.getLast h0, (List.dropLast_concat_getLast h0).symm⟩
    have hc := hd c (by simp)
    have hc2 := hc
    unfold IsDig at hc2
    rw [dval_snoc]
    by_cases hq : q = []
    · subst hq
      show Lib.decDigits (0 * 10 + (c.toNat - 48)) = [c]
      rw [Lib.decDigits_one (by omega), show 48 + (0 * 10 + (c.toNat - 48)) = 48 + (c.toNat - 48) from by omega, dig_back hc]
    · have hq0 : 0 < q.length := List.length_pos_iff.2 hq
      have hl : q.length = n := by simp at hn; omega
      have q48 : q.head? ≠ some 48 := by
        rcases hh with h | h
        · intro k
          apply h
          rw [List.head?_append, k]
          rfl
        · rw [List.length_append, List.length_cons, List.length_nil] at h
          omega
      have dq : ∀ x ∈ q, IsDig x := fun x hx => hd x (by simp [hx])
      have ih := dec_dval n q hl dq hq (.inl q48)
      have vp := dval_pos dq hq q48
      rw [Lib.decDigits, dif_neg (by omega)]
      rw [show (dval 0 q * 10 + (c.toNat - 48)) / 10 = dval 0 q from by omega, show (dval 0 q * 10 + (c.toNat - 48)) % 10 = c.toNat - 48 from by omega, ih, dig_back hc]
/-- a number that is read is the text's -/
theorem num_itoa {T : List UInt8} (h : NumOk T) : T = Lib.itoa (numV T) := by
  have hd := h
  unfold NumOk at h
  unfold numV
  rw [numR_yes h]
  have hc : (T.drop (sgn T)).head? ≠ some 48 ∨ (T.drop (sgn T)).length = 1 := by
    by_cases k : (T.drop (sgn T)).head? = some 48
    · have l0 := List.length_pos_iff.2 h.ne
      exact .inr (Classical.byContradiction fun q => h.one ⟨k, by omega⟩)
    · exact .inl k
  have dd := dec_dval _ _ rfl h.dig h.ne hc
  by_cases h45 : T[0]? = some 45
  · have e : sgn T = 1 := if_pos h45
    rw [if_pos h45]
    rw [e] at h hc dd ⊢
    have t48 : (T.drop 1).head? ≠ some 48 := fun k => by
      have := h.one
      have l0 := List.length_pos_iff.2 h.ne
      exact this ⟨k, by omega⟩
    have vp := dval_pos h.dig h.ne t48
    rw [Lib.itoa_neg _ (by omega), dd]
    match T, h45 with
    | c :: r, h45 =>
      simp at h45
      simp [h45]
  · have e : sgn T = 0 := if_neg h45
    rw [if_neg h45]
    rw [e] at dd ⊢
    rw [Lib.itoa_nonneg, dd]
    rfl
theorem dec_head (u : Nat) (h : 10 ≤ u) : (Lib.decDigits u).head? ≠ some 48 := by
  induction u using Nat.strongRecOn with
  | _ u ih =>
    rw [Lib.decDigits, dif_neg (by omega)]
    by_cases c : u / 10 < 10
    · rw [Lib.decDigits_one c]
      intro k
      have k2 := congrArg (Option.map UInt8.toNat) k
      simp only [List.cons_append, List.head?_cons, Option.map_some, Option.some.injEq] at k2
      rw [dig_of c] at k2
      have : (48 : UInt8).toNat = 48 := rfl
      omega
    · have := ih (u / 10) (by omega) (by omega)
      have ne := dec_ne (u / 10)
      generalize Lib.decDigits (u / 10) = l at *
      match l, ne with
      | x :: r, _ => exact this
theorem dec_ok {u s : Nat} (hu : u < 1000000000000000000) (hz : u = 0 → s = 0) : DigOk s (Lib.decDigits u) := by
  refine ⟨dec_ne u, ?_, ?_, dec_digits u⟩
  · rw [Lib.decDigits_length]
    exact nDigits_le 18 u (by omega) (by simpa using hu)
  · rintro ⟨k, l⟩
    by_cases c : u < 10
    · rw [Lib.decDigits_one c] at k l
      have k2 := congrArg (Option.map UInt8.toNat) k
      simp only [List.head?_cons, Option.map_some, Option.some.injEq] at k2
      rw [dig_of c] at k2
      have : (48 : UInt8).toNat = 48 := rfl
      have := hz (by omega)
      simp at l
      omega
    · exact dec_head u (by omega) k
theorem num_of {n : Int} (h : In18 n) : NumOk (Lib.itoa n) ∧ numV (Lib.itoa n) = n := by
  obtain ⟨h1, h2⟩ := h
  by_cases hn : n < 0
  · obtain ⟨u, rfl⟩ : ∃ u : Nat, n = -(u : Int) := ⟨n.natAbs, by omega⟩
    rw [Lib.itoa_neg u (by omega)]
    have e0 : (45 :: Lib.decDigits u)[0]? = some 45 := rfl
    have e : sgn (45 :: Lib.decDigits u) = 1 := if_pos e0
    have ok : DigOk 1 (Lib.decDigits u) := dec_ok (by omega) (fun k => by omega)
    unfold NumOk numV
    rw [e, if_pos e0]
    show DigOk 1 (Lib.decDigits u) ∧ numR 1 (Lib.decDigits u) (-(dval 0 (Lib.decDigits u) : Int)) = _
    rw [numR_yes ok, dval_dec]
    exact ⟨ok, rfl⟩
  · obtain ⟨u, rfl⟩ : ∃ u : Nat, n = (u : Int) := ⟨n.toNat, by omega⟩
    rw [Lib.itoa_nonneg]
    have e0 : ¬ (Lib.decDigits u)[0]? = some 45 := fun k => by
      have := dec_digits u 45 (List.mem_of_getElem? k)
      unfold IsDig at this
      have e : (45 : UInt8).toNat = 45 := rfl
      omega
    have e : sgn (Lib.decDigits u) = 0 := if_neg e0
    have ok : DigOk 0 (Lib.decDigits u) := dec_ok (by omega) (fun k => rfl)
    unfold NumOk numV
    rw [e, if_neg e0]
    show DigOk 0 (Lib.decDigits u) ∧ numR 0 (Lib.decDigits u) ((dval 0 (Lib.decDigits u) : Nat) : Int) = _
    rw [numR_yes ok, dval_dec]
    exact ⟨ok, rfl⟩
/-- the numbers of 18 digits at most -/
theorem num_in {T : List UInt8} (h : NumOk T) : In18 (numV T) := by
  unfold NumOk at h
  unfold numV
  rw [numR_yes h]
  have vb := dval_bound h.dig h.len
  unfold In18
  split
  · exact ⟨by omega, by omega⟩
  · exact ⟨by omega, by omega⟩
end Go.Proofs.YtiaemddmkmfijaaDoor
