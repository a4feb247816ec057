/-
  OWN WORK: the reference's splitting of a text.
-/
import Derived.Test.YtiaemddmkmfijaaDoorRrC
namespace Go.Proofs.YtiaemddmkmfijaaDoor
open Go Go.Own Go.Proofs
set_option maxHeartbeats 4000000
set_option maxRecDepth 20000
set_option linter.unusedSimpArgs false
set_option linter.unusedVariables false
/-- the pieces between the separators, the first one begun -/
def spG (c : UInt8) : List UInt8 → List UInt8 → List (List UInt8)
  | cur, [] => [cur]
  | cur, x :: r => if x = c then cur :: spG c [] r else spG c (cur ++ [x]) r
theorem spG_ne (c : UInt8) : ∀ (r cur : List UInt8), spG c cur r ≠ []
  | [], cur => by simp [spG]
  | x :: r, cur => by
    unfold spG
    split
    · simp
    · exact spG_ne c r _
theorem join_cons2 (x y : List UInt8) (l : List (List UInt8)) (c : UInt8) : Lib.join (x :: y :: l) [c] = x ++ c :: Lib.join (y :: l) [c] := by
  simp [Lib.join_cons, Lib.joinTail]
theorem spG_join (c : UInt8) : ∀ (r cur : List UInt8), Lib.join (spG c cur r) [c] = cur ++ r
  | [], cur => by simp [spG, Lib.join]
  | x :: r, cur => by
    unfold spG
    split
    case isTrue h =>
      have ih := spG_join c r []
      have ne := spG_ne c r []
      generalize spG c [] r = L at *
      cases L with
      | nil => exact absurd rfl ne
      | cons y l =>
        rw [join_cons2, ih, h]
        simp
    case isFalse h =>
      rw [spG_join c r]
      simp
theorem spG_no (c : UInt8) : ∀ (r cur : List UInt8), c ∉ cur → ∀ x ∈ spG c cur r, c ∉ x
  | [], cur, h => by
    intro x hx
    simp [spG] at hx
    rw [hx]
    exact h
  | y :: r, cur, h => by
    unfold spG
    split
    case isTrue e =>
      intro x hx
      rcases List.mem_cons.1 hx with e2 | e2
      · rw [e2]
        exact h
      · exact spG_no c r [] (by simp) x e2
    case isFalse e =>
      exact spG_no c r _ (by simp [h, Ne.symm e])
theorem spG_len (c : UInt8) : ∀ (r cur : List UInt8), (spG c cur r).length ≤ r.length + 1 ∧ ∀ x ∈ spG c cur r, x.length ≤ cur.length + r.length
  | [], cur => by simp [spG]
  | y :: r, cur => by
    unfold spG
    split
    case isTrue e =>
      have ih := spG_len c r []
      refine ⟨by simp; exact ih.1, fun x hx => ?_⟩
      rcases List.mem_cons.1 hx with e2 | e2
      · rw [e2]
        simp
      · have := ih.2 x e2
        simp at this ⊢
        omega
    case isFalse e =>
      have ih := spG_len c r (cur ++ [y])
      refine ⟨by simp; omega, fun x hx => ?_⟩
      have := ih.2 x hx
      simp at this ⊢
      omega
theorem spG_pass {c : UInt8} : ∀ (s cur r : List UInt8), c ∉ s → spG c cur (s ++ r) = spG c (cur ++ s) r
  | [], cur, r, _ => by simp
  | y :: s, cur, r, h => by
    have h1 : y ≠ c := fun e => h (by simp [e])
    have h2 : c ∉ s := fun e => h (by simp [e])
    show spG c cur (y :: (s ++ r)) = _
    rw [show spG c cur (y :: (s ++ r)) = spG c (cur ++ [y]) (s ++ r) from by rw [spG, if_neg h1], spG_pass s _ r h2]
    simp
theorem spG_of_join {c : UInt8} : ∀ (xs : List (List UInt8)), xs ≠ [] → (∀ x ∈ xs, c ∉ x) → spG c [] (Lib.join xs [c]) = xs
  | [], h, _ => absurd rfl h
  | [x], _, h => by
    have := spG_pass x [] [] (h x (by simp))
    rw [List.append_nil] at this
    simp [Lib.join, this, spG]
  | x :: y :: l, _, h => by
    have ih := spG_of_join (y :: l) (by simp) (fun z hz => h z (by simp [hz]))
    rw [join_cons2, spG_pass x [] _ (h x (by simp))]
    rw [spG, if_pos rfl, ih]
    simp
section
variable {P : Program} {a : List UInt8}
theorem sem_sliceLH {t : TypeId} (h : P.underlying t = some .string) (k k2 : IntKind) (i j : Nat) (h0 : i ≤ j) (h1 : j ≤ a.length) : semS P (Instr.slice t (.string (bt a)) (some (.int k i)) (some (.int k2 j)) none) = some (.flat (.string (bt ((a.drop i).take (j - i))))) := by
  have hs : (bt a).size = a.length := bt_size a
  have e : semv P (Instr.slice t (.string (bt a)) (some (.int k i)) (some (.int k2 j)) none) = some (.string (bt ((a.drop i).take (j - i)))) := by
    unfold Instr.slice
    rw [semv_bind, semv_under P h]
    simp only [Option.isSome_none, Bool.false_eq_true, if_false]
    have q : semv P (Instr.sliceBounds false (bt a).size (bt a).size (some (.int k i)) (some (.int k2 j)) none) = some (i, j, (bt a).size) := by
      unfold Instr.sliceBounds
      simp only [semv_bind, semv, pure, Option.isSome_none, Bool.false_eq_true, if_false]
      rw [semv_bound P k2 j _ _ (by omega) (by rw [hs]; omega)]
      simp only [Int.toNat_natCast]
      rw [semv_bound P k i _ _ (by omega) (by omega)]
      simp
    rw [semv_bind]
    simp only [q, semv, pure]
    rw [bt_extract]
  unfold semS
  rw [e]
  rfl
end
theorem den_l01Split (T : List UInt8) (c : UInt8) (hT : T.length ≤ 2000000) : Den Tryd.prog 56 [.t T, .flat (.int .u8 (c.toNat : Nat))] (strs (spG c [] T)) := by
  have ix := fun k (hk : k < T.length) => sem_indexT Tryd.prog Tryd.underlying9 T .i64 k hk
  obtain ⟨R, hR⟩ : ∃ R, spG c [] T = R := ⟨_, rfl⟩
  have lR := (spG_len c T []).1
  rw [hR] at lR ⊢
  refine den_of_awpG (ghs [(26, 8)] [25]) Tryd.func56 rfl (by kernel_rfl) (Nat.le_of_ble_eq_true rfl) (by simp only [treeL, AVal.tree, treeL_i, treeL_ints, treeL_u8, treeL_append, Bool.and_self, Bool.and_true, Bool.true_and, strs, lstC, treeL_t]) (by first | rfl | simp only [treeL, AVal.tree, treeL_i, treeL_ints, treeL_u8, treeL_append, Bool.and_self, Bool.and_true, Bool.true_and, strs, lstC, treeL_t]) mixed (by kernel_rfl) fun hl => ?_
  simp only [lensL, lens, lensL_i, lensL_mapC, maxI, and_true, true_and] at hl
  rw [Tryd.ntmps56]
  refine ex_start ?_
  simp (config := { maxSteps := 1000000 }) +decide only [NoH, Old, OldL, nilQ, nilA, asgn, nz, RechL, ReY, isNew, stepO, XPost, postN, XOk, updN, updU, isEff, avalue, aeff, ASt.eval, ASt.put, ASt.set, ASt.new, Nat.reduceDiv, Nat.reduceAdd, Int.reduceToNat, absV, absC, scalar, alen, acap, conc, flats, live, blkOf, aload, rd, part?, afieldAddr, afield, aindexAddr, cellsOf, afill, places, abuild, optI, asliceV, asliceS, szOk, srcCells, aappend, acopy, astore, amakeSlice, abuildSlice, snapL, mapO, treeL, AVal.tree, AVal.flatT, isFlat, ares, isFz, afroz, afrozB, lookupA, lookupH, tops, if_true, if_false, reduceCtorEq, forall_const, ite_true, ite_false, implies_true, walkS, tabS, Tryd.results56]
  refine ex_loop (fun p : {p : Nat × Nat × Nat × Nat × List (List UInt8) // p.1 ≤ T.length ∧ p.2.1 ≤ p.1 ∧ R = p.2.2.2.2 ++ spG c ((T.drop p.2.1).take (p.1 - p.2.1)) (T.drop p.1)} => mkG (ghs [(26, 8)] [25]) [(0, .t T), (1, .flat (.int .u8 (c.toNat : Nat))), (5, .own 8 p.1.2.2.1 0 p.1.2.2.2.2.length), (6, .i p.1.2.1), (7, .i p.1.1)] [(8, ⟨p.1.2.2.1, 1, mapC AVal.t p.1.2.2.2.2⟩)] p.1.2.2.2.1 35) (fun p => T.length - p.1.1) ⟨(0, 0, 0, 1, []), Nat.zero_le _, Nat.zero_le _, by simp [hR]⟩ ?_ ?_
  · refine weak_mk rfl (by first | exact Nat.le_refl _ | (simp only [mk_gen]; omega)) ?_ ?_ <;> simp +decide only [w_lookup_nil, w_lookup_cons, ch_ch, ch_lit, lit_ch, wkT, wkH, wkB, WVL, WV_refl', Int.natCast_zero, Int.natCast_add, Int.natCast_one, Nat.sub_self, Nat.sub_zero, List.replicate_zero, List.take_zero, List.nil_append, List.append_nil, fillC_zero, Nat.reduceDiv, Nat.reduceAdd, upd_bk, bk_at, getB_zero, getB_succ, modB_zero, modB_succ, rows_lit, repB_zero, repB_succ, List.length_cons, List.length_nil, upd_upd_same, upd_apply, mk_tmp, mk_heap, mk_gen, lookupA, lookupH, List.getD_cons_zero, List.getD_cons_succ, init_two, tops, Bool.true_and, and_self, and_true, true_and, true_or, if_true, if_false, ite_true, ite_false, reduceCtorEq, reduceIte, mapC_nil, List.length_nil]
  rintro ⟨⟨i, a, g, G, P⟩, hi, ha, hP⟩
  simp only [] at hi ha hP
  have pl : P.length ≤ 2000001 := by
    have h1 := congrArg List.length hP
    rw [List.length_append] at h1
    omega
  have h8 : (P.length + 1) * 16 ≤ 140737488355328 := by omega
  have fl : ∀ v : AVal, lay (List.replicate 1 (AVal.flat (Value.string ByteArray.empty))) 0 [v] = [v] := fun v => rfl
  have tc : List.take P.length P = P := List.take_of_length_le (Nat.le_refl _)
  by_cases hlt : i < T.length
  case neg =>
    have e : i = T.length := by omega
    subst e
    have hltI : ¬ (T.length : Int) < (T.length : Int) := by omega
    have eP : P ++ [T.drop a] = R := by
      rw [hP, List.drop_length, spG, List.take_of_length_le (by simp)]
    have sl := sem_sliceLo (P := Tryd.prog) (a := T) Tryd.underlying9 .i64 a (by omega) (by omega)
    rw [Int.toNat_natCast] at sl
    have eL : P.length + 1 = R.length := by rw [← eP]; simp
    have h9 : R.length * 16 ≤ 140737488355328 := by omega
    simp (config := { maxSteps := 1000000 }) +decide only [NoH, Old, OldL, nilQ, nilA, asgn, nz, RechL, ReY, isNew, stepO, XPost, postN, XOk, updN, updU, isEff, avalue, aeff, ASt.eval, ASt.put, ASt.set, ASt.new, Nat.reduceDiv, Nat.reduceAdd, Int.reduceToNat, absV, absC, scalar, alen, acap, conc, flats, live, blkOf, aload, rd, part?, afieldAddr, afield, aindexAddr, cellsOf, afill, places, abuild, optI, asliceV, asliceS, szOk, srcCells, aappend, acopy, astore, amakeSlice, abuildSlice, snapL, mapO, treeL, AVal.tree, AVal.flatT, isFlat, ares, isFz, afroz, afrozB, lookupA, lookupH, tops, if_true, if_false, reduceCtorEq, forall_const, ite_true, ite_false, implies_true, walkS, tabS, Tryd.results56, eq_false hltI, bt_size, sl, Option.toList, List.head?_cons, List.head?_nil, fl, List.length_cons, List.length_nil, List.take_succ_cons, List.take_zero, tc, h8, mapC_snoc, eP, eL, h9, List.take_length, treeL_t]
  have hltI : (i : Int) < (T.length : Int) := by omega
  have wk : IntKind.i64.wrap ((i : Int) + 1) = ((i + 1 : Nat) : Int) := wrap64 (by omega) (by omega)
  have ixi := ix i hlt
  have dr : T.drop i = T[i] :: T.drop (i + 1) := List.drop_eq_getElem_cons hlt
  by_cases hc : T[i] = c
  · have hcI : ((T[i].toNat : Nat) : Int) = ((c.toNat : Nat) : Int) := by rw [hc]
    have sl := sem_sliceLH (P := Tryd.prog) (a := T) Tryd.underlying9 .i64 .i64 a i ha hi
    have nP : R = (P ++ [(T.drop a).take (i - a)]) ++ spG c ((T.drop (i + 1)).take (i + 1 - (i + 1))) (T.drop (i + 1)) := by
      rw [hP, dr, spG, if_pos hc]
      simp
    simp (config := { maxSteps := 1000000 }) +decide only [NoH, Old, OldL, nilQ, nilA, asgn, nz, RechL, ReY, isNew, stepO, XPost, postN, XOk, updN, updU, isEff, avalue, aeff, ASt.eval, ASt.put, ASt.set, ASt.new, Nat.reduceDiv, Nat.reduceAdd, Int.reduceToNat, absV, absC, scalar, alen, acap, conc, flats, live, blkOf, aload, rd, part?, afieldAddr, afield, aindexAddr, cellsOf, afill, places, abuild, optI, asliceV, asliceS, szOk, srcCells, aappend, acopy, astore, amakeSlice, abuildSlice, snapL, mapO, treeL, AVal.tree, AVal.flatT, isFlat, ares, isFz, afroz, afrozB, lookupA, lookupH, tops, if_true, if_false, reduceCtorEq, forall_const, ite_true, ite_false, implies_true, walkS, tabS, Tryd.results56, eq_true hltI, bt_size, ixi, eq_true hcI, sl, Option.toList, List.head?_cons, List.head?_nil, fl, List.length_cons, List.length_nil, List.take_succ_cons, List.take_zero, tc, h8, wk, mapC_snoc]
    refine ⟨⟨(i + 1, i + 1, G, G + 1, P ++ [(T.drop a).take (i - a)]), hlt, Nat.le_refl _, nP⟩, ?_, by show T.length - (i + 1) < T.length - i; omega⟩
    refine weak_mk rfl (by first | exact Nat.le_refl _ | (simp only [mk_gen]; omega)) ?_ ?_ <;> simp +decide only [w_lookup_nil, w_lookup_cons, ch_ch, ch_lit, lit_ch, wkT, wkH, wkB, WVL, WV_refl', Int.natCast_zero, Int.natCast_add, Int.natCast_one, Nat.sub_self, Nat.sub_zero, List.replicate_zero, List.take_zero, List.nil_append, List.append_nil, fillC_zero, Nat.reduceDiv, Nat.reduceAdd, upd_bk, bk_at, getB_zero, getB_succ, modB_zero, modB_succ, rows_lit, repB_zero, repB_succ, List.length_cons, List.length_nil, upd_upd_same, upd_apply, mk_tmp, mk_heap, mk_gen, lookupA, lookupH, List.getD_cons_zero, List.getD_cons_succ, init_two, tops, Bool.true_and, and_self, and_true, true_and, true_or, if_true, if_false, ite_true, ite_false, reduceCtorEq, reduceIte, List.length_append, List.length_cons, List.length_nil, Nat.zero_add]
  · have hcI : ¬ ((T[i].toNat : Nat) : Int) = ((c.toNat : Nat) : Int) := fun k => hc (UInt8.toNat_inj.1 (by omega))
    have nP : R = P ++ spG c ((T.drop a).take (i + 1 - a)) (T.drop (i + 1)) := by
      rw [hP, dr, spG, if_neg hc]
      have e : i + 1 - a = (i - a) + 1 := by omega
      have hd : i - a < (T.drop a).length := by rw [List.length_drop]; omega
      have e3 : (T.drop a)[i - a] = T[i] := by
        rw [List.getElem_drop]
        congr 1
        omega
      rw [e, List.take_succ_eq_append_getElem hd, e3]
    simp (config := { maxSteps := 1000000 }) +decide only [NoH, Old, OldL, nilQ, nilA, asgn, nz, RechL, ReY, isNew, stepO, XPost, postN, XOk, updN, updU, isEff, avalue, aeff, ASt.eval, ASt.put, ASt.set, ASt.new, Nat.reduceDiv, Nat.reduceAdd, Int.reduceToNat, absV, absC, scalar, alen, acap, conc, flats, live, blkOf, aload, rd, part?, afieldAddr, afield, aindexAddr, cellsOf, afill, places, abuild, optI, asliceV, asliceS, szOk, srcCells, aappend, acopy, astore, amakeSlice, abuildSlice, snapL, mapO, treeL, AVal.tree, AVal.flatT, isFlat, ares, isFz, afroz, afrozB, lookupA, lookupH, tops, if_true, if_false, reduceCtorEq, forall_const, ite_true, ite_false, implies_true, walkS, tabS, Tryd.results56, eq_true hltI, bt_size, ixi, eq_false hcI, wk]
    refine ⟨⟨(i + 1, a, g, G, P), hlt, by show a ≤ i + 1; omega, nP⟩, ?_, by show T.length - (i + 1) < T.length - i; omega⟩
    refine weak_mk rfl (by first | exact Nat.le_refl _ | (simp only [mk_gen]; omega)) ?_ ?_ <;> simp +decide only [w_lookup_nil, w_lookup_cons, ch_ch, ch_lit, lit_ch, wkT, wkH, wkB, WVL, WV_refl', Int.natCast_zero, Int.natCast_add, Int.natCast_one, Nat.sub_self, Nat.sub_zero, List.replicate_zero, List.take_zero, List.nil_append, List.append_nil, fillC_zero, Nat.reduceDiv, Nat.reduceAdd, upd_bk, bk_at, getB_zero, getB_succ, modB_zero, modB_succ, rows_lit, repB_zero, repB_succ, List.length_cons, List.length_nil, upd_upd_same, upd_apply, mk_tmp, mk_heap, mk_gen, lookupA, lookupH, List.getD_cons_zero, List.getD_cons_succ, init_two, tops, Bool.true_and, and_self, and_true, true_and, true_or, if_true, if_false, ite_true, ite_false, reduceCtorEq, reduceIte]
end Go.Proofs.YtiaemddmkmfijaaDoor
