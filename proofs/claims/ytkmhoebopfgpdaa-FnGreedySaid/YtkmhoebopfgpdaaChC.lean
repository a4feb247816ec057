/-
  OWN WORK: assignments, what violates them, differences of two lists, items, elements deleted.
-/
import Derived.Test.YtkmhoebopfgpdaaChB
import Derived.Test.YtkmhoebopfgpdaaChP
namespace Go.Proofs.Ytkmhoebopfgpdaa
open Go Go.Own Go.Proofs
set_option maxHeartbeats 4000000
set_option maxRecDepth 20000
set_option linter.unusedSimpArgs false
set_option linter.unusedVariables false
/-- each item has a channel of its domain -/
def FitOk (D : List (List Int)) (L : List Int) : Prop := ∀ i : Nat, i < L.length → L.getD i 0 ∈ D.getD i []
theorem den_isAssignment {D A : List (List Int)} (h : PrD D A) (L : List Int) (hL : L.length = D.length) : Den Try.prog 34 [proV D A, ints L] (.b (bp (FitOk D L))) := by
  have hn := h.few
  have hLI : (L.length : Int) = (D.length : Int) := by omega
  refine den_of_awpG (ghs [] [2]) Try.func34 rfl (by kernel_rfl) (Nat.le_of_ble_eq_true rfl) (by simp only [treeL, AVal.tree, treeL_i, treeL_ints, treeL_u8, treeL_append, Bool.and_self, Bool.and_true, Bool.true_and]) (by first | rfl | simp only [treeL, AVal.tree, treeL_i, treeL_ints, treeL_u8, treeL_append, Bool.and_self, Bool.and_true, Bool.true_and]) mixed (by kernel_rfl) fun hl => ?_
  simp only [lensL, lens, lensL_i, lensL_mapC, maxI, and_true, true_and] at hl
  rw [Try.ntmps34]
  refine ex_start ?_
  simp (config := { maxSteps := 1000000 }) +decide only [NoH, Old, OldL, nilQ, nilA, asgn, nz, RechL, ReY, isNew, stepO, XPost, postN, XOk, updN, updU, isEff, avalue, aeff, ASt.eval, ASt.put, ASt.set, ASt.new, Nat.reduceDiv, Nat.reduceAdd, Int.reduceToNat, absV, absC, scalar, alen, acap, conc, flats, live, blkOf, aload, rd, part?, afieldAddr, afield, aindexAddr, cellsOf, afill, places, abuild, optI, asliceV, asliceS, szOk, srcCells, aappend, acopy, aclear, astore, amakeSlice, abuildSlice, snapL, mapO, treeL, AVal.tree, AVal.flatT, isFlat, ares, isFz, afroz, afrozB, lookupA, lookupH, tops, if_true, if_false, reduceCtorEq, forall_const, ite_true, ite_false, implies_true, walkS, tabS, Try.results34, eq_true hLI]
  refine ex_loop (fun k : {k : Nat // k ≤ L.length ∧ ∀ i : Nat, i < k → L.getD i 0 ∈ D.getD i []} => mkG (ghs [] [2]) [(2, proP D A), (13, ints L), (14, .i L.length), (15, .i k.1)] [] 0 29) (fun k => L.length - k.1) ⟨0, Nat.zero_le _, fun i hi => by omega⟩ ?_ ?_
  · refine weak_mk rfl (by first | exact Nat.le_refl _ | (simp only [mk_gen]; omega)) ?_ ?_ <;> simp +decide only [w_lookup_nil, w_lookup_cons, ch_ch, ch_lit, lit_ch, wkT, wkH, wkB, WVL, WV_refl', Int.natCast_zero, Int.natCast_add, Int.natCast_one, Nat.sub_self, Nat.sub_zero, List.replicate_zero, List.take_zero, List.nil_append, List.append_nil, fillC_zero, Nat.reduceDiv, Nat.reduceAdd, upd_bk, bk_at, getB_zero, getB_succ, modB_zero, modB_succ, rows_lit, repB_zero, repB_succ, List.length_cons, List.length_nil, upd_upd_same, upd_apply, mk_tmp, mk_heap, mk_gen, lookupA, lookupH, List.getD_cons_zero, List.getD_cons_succ, init_two, tops, Bool.true_and, and_self, and_true, true_and, true_or, if_true, if_false, ite_true, ite_false, reduceCtorEq, reduceIte]
  rintro ⟨k, hk, hI⟩
  have hk' : k ≤ L.length := hk
  have hI' : ∀ i : Nat, i < k → L.getD i 0 ∈ D.getD i [] := hI
  by_cases hlt : k < L.length
  case neg =>
    have hltI : ¬ (k : Int) < (L.length : Int) := by omega
    have yes : FitOk D L := fun i hi => hI' i (by omega)
    simp (config := { maxSteps := 1000000 }) +decide only [NoH, Old, OldL, nilQ, nilA, asgn, nz, RechL, ReY, isNew, stepO, XPost, postN, XOk, updN, updU, isEff, avalue, aeff, ASt.eval, ASt.put, ASt.set, ASt.new, Nat.reduceDiv, Nat.reduceAdd, Int.reduceToNat, absV, absC, scalar, alen, acap, conc, flats, live, blkOf, aload, rd, part?, afieldAddr, afield, aindexAddr, cellsOf, afill, places, abuild, optI, asliceV, asliceS, szOk, srcCells, aappend, acopy, aclear, astore, amakeSlice, abuildSlice, snapL, mapO, treeL, AVal.tree, AVal.flatT, isFlat, ares, isFz, afroz, afrozB, lookupA, lookupH, tops, if_true, if_false, reduceCtorEq, forall_const, ite_true, ite_false, implies_true, walkS, tabS, Try.results34, eq_false hltI, eq_true yes]
  have hltI : (k : Int) < (L.length : Int) := by omega
  have hw : IntKind.i64.wrap ((k : Int) + 1) = ((k + 1 : Nat) : Int) := wrap64 (by omega) (by omega)
  have kD : k < D.length := by omega
  have eg : L.getD k 0 = L[k] := by rw [List.getD_eq_getElem?_getD, List.getElem?_eq_getElem hlt, Option.getD_some]
  have eD : D.getD k [] = D[k] := by rw [List.getD_eq_getElem?_getD, List.getElem?_eq_getElem kD, Option.getD_some]
  simp (config := { maxSteps := 1000000 }) +decide only [NoH, Old, OldL, nilQ, nilA, asgn, nz, RechL, ReY, isNew, stepO, XPost, postN, XOk, updN, updU, isEff, avalue, aeff, ASt.eval, ASt.put, ASt.set, ASt.new, Nat.reduceDiv, Nat.reduceAdd, Int.reduceToNat, absV, absC, scalar, alen, acap, conc, flats, live, blkOf, aload, rd, part?, afieldAddr, afield, aindexAddr, cellsOf, afill, places, abuild, optI, asliceV, asliceS, szOk, srcCells, aappend, acopy, aclear, astore, amakeSlice, abuildSlice, snapL, mapO, treeL, AVal.tree, AVal.flatT, isFlat, ares, isFz, afroz, afrozB, lookupA, lookupH, tops, if_true, if_false, reduceCtorEq, forall_const, ite_true, ite_false, implies_true, walkS, tabS, Try.results34, eq_true hltI, hlt, kD]
  refine callK (den_Contains D[k] L[k]) (by first | exact .inl rfl | exact .inr rfl) ?_
  by_cases c : L[k] ∈ D[k]
  · simp (config := { maxSteps := 1000000 }) +decide only [NoH, Old, OldL, nilQ, nilA, asgn, nz, RechL, ReY, isNew, stepO, XPost, postN, XOk, updN, updU, isEff, avalue, aeff, ASt.eval, ASt.put, ASt.set, ASt.new, Nat.reduceDiv, Nat.reduceAdd, Int.reduceToNat, absV, absC, scalar, alen, acap, conc, flats, live, blkOf, aload, rd, part?, afieldAddr, afield, aindexAddr, cellsOf, afill, places, abuild, optI, asliceV, asliceS, szOk, srcCells, aappend, acopy, aclear, astore, amakeSlice, abuildSlice, snapL, mapO, treeL, AVal.tree, AVal.flatT, isFlat, ares, isFz, afroz, afrozB, lookupA, lookupH, tops, if_true, if_false, reduceCtorEq, forall_const, ite_true, ite_false, implies_true, walkS, tabS, Try.results34, eq_true c, hw]
    refine ⟨⟨k + 1, hlt, fun i hi => ?_⟩, ?_, by show L.length - (k + 1) < L.length - k; omega⟩
    · by_cases e : i = k
      · subst e; rw [eg, eD]; exact c
      · exact hI' i (by omega)
    refine weak_mk rfl (by first | exact Nat.le_refl _ | (simp only [mk_gen]; omega)) ?_ ?_ <;> simp +decide only [w_lookup_nil, w_lookup_cons, ch_ch, ch_lit, lit_ch, wkT, wkH, wkB, WVL, WV_refl', Int.natCast_zero, Int.natCast_add, Int.natCast_one, Nat.sub_self, Nat.sub_zero, List.replicate_zero, List.take_zero, List.nil_append, List.append_nil, fillC_zero, Nat.reduceDiv, Nat.reduceAdd, upd_bk, bk_at, getB_zero, getB_succ, modB_zero, modB_succ, rows_lit, repB_zero, repB_succ, List.length_cons, List.length_nil, upd_upd_same, upd_apply, mk_tmp, mk_heap, mk_gen, lookupA, lookupH, List.getD_cons_zero, List.getD_cons_succ, init_two, tops, Bool.true_and, and_self, and_true, true_and, true_or, if_true, if_false, ite_true, ite_false, reduceCtorEq, reduceIte]
  · have no : ¬ FitOk D L := fun h => c (by have := h k hlt; rwa [eg, eD] at this)
    simp (config := { maxSteps := 1000000 }) +decide only [NoH, Old, OldL, nilQ, nilA, asgn, nz, RechL, ReY, isNew, stepO, XPost, postN, XOk, updN, updU, isEff, avalue, aeff, ASt.eval, ASt.put, ASt.set, ASt.new, Nat.reduceDiv, Nat.reduceAdd, Int.reduceToNat, absV, absC, scalar, alen, acap, conc, flats, live, blkOf, aload, rd, part?, afieldAddr, afield, aindexAddr, cellsOf, afill, places, abuild, optI, asliceV, asliceS, szOk, srcCells, aappend, acopy, aclear, astore, amakeSlice, abuildSlice, snapL, mapO, treeL, AVal.tree, AVal.flatT, isFlat, ares, isFz, afroz, afrozB, lookupA, lookupH, tops, if_true, if_false, reduceCtorEq, forall_const, ite_true, ite_false, implies_true, walkS, tabS, Try.results34, eq_false c, eq_false no]
/-- violations of an item and the d next -/
noncomputable def vrK (A : List (List Int)) (L : List Int) (i : Nat) (acc : List (List Int)) : Nat → List (List Int)
  | 0 => acc
  | d + 1 => if bp (Near (L.getD i 0) (L.getD (i + 1 + d) 0) (ap A i (i + 1 + d : Nat))) = true then vrK A L i acc d ++ [[(i : Int), ((i + 1 + d : Nat) : Int)]] else vrK A L i acc d
noncomputable def viK (A : List (List Int)) (L : List Int) : Nat → List (List Int)
  | 0 => []
  | i + 1 => vrK A L i (viK A L i) (L.length - (i + 1))
theorem vrK_len (A : List (List Int)) (L : List Int) (i : Nat) (acc : List (List Int)) : ∀ d, acc.length ≤ (vrK A L i acc d).length ∧ (vrK A L i acc d).length ≤ acc.length + d
  | 0 => ⟨Nat.le_refl _, Nat.le_refl _⟩
  | d + 1 => by
    have := vrK_len A L i acc d
    unfold vrK
    split
    · simp only [List.length_append, List.length_cons, List.length_nil]; omega
    · omega
theorem viK_len (A : List (List Int)) (L : List Int) : ∀ i, (viK A L i).length ≤ i * L.length
  | 0 => by simp [viK]
  | i + 1 => by
    have h1 := viK_len A L i
    have h2 := (vrK_len A L i (viK A L i) (L.length - (i + 1))).2
    rw [Nat.succ_mul]
    show (vrK A L i (viK A L i) (L.length - (i + 1))).length ≤ _
    omega
theorem vrK_nil {A : List (List Int)} {L : List Int} {i : Nat} {acc : List (List Int)} : ∀ d, vrK A L i acc d = [] ↔ acc = [] ∧ ∀ j : Nat, j < d → ¬ Near (L.getD i 0) (L.getD (i + 1 + j) 0) (ap A i (i + 1 + j : Nat))
  | 0 => ⟨fun h => ⟨h, fun j hj => by omega⟩, fun h => h.1⟩
  | d + 1 => by
    have ih := vrK_nil (A := A) (L := L) (i := i) (acc := acc) d
    unfold vrK
    split
    · rename_i h
      rw [bp_true] at h
      refine ⟨fun h' => by simp at h', fun h' => absurd h (h'.2 d (by omega))⟩
    · rename_i h
      rw [bp_true] at h
      rw [ih]
      refine ⟨fun h' => ⟨h'.1, fun j hj => ?_⟩, fun h' => ⟨h'.1, fun j hj => h'.2 j (by omega)⟩⟩
      by_cases e : j = d
      · subst e; exact h
      · exact h'.2 j (by omega)
/-- no pair is too near -/
def NoVio (A : List (List Int)) (L : List Int) : Prop := ∀ i k : Nat, i < k → k < L.length → ¬ Near (L.getD i 0) (L.getD k 0) (ap A i k)
theorem viK_nil {A : List (List Int)} {L : List Int} : ∀ m, m ≤ L.length → (viK A L m = [] ↔ ∀ i k : Nat, i < m → i < k → k < L.length → ¬ Near (L.getD i 0) (L.getD k 0) (ap A i k))
  | 0, _ => ⟨fun _ i k hi => by omega, fun _ => rfl⟩
  | m + 1, hm => by
    have ih := viK_nil (A := A) (L := L) m (by omega)
    show vrK A L m (viK A L m) (L.length - (m + 1)) = [] ↔ _
    rw [vrK_nil, ih]
    constructor
    · rintro ⟨h1, h2⟩ i k hi hik hk
      by_cases e : i = m
      · subst e
        have := h2 (k - (i + 1)) (by omega)
        rwa [show i + 1 + (k - (i + 1)) = k by omega] at this
      · exact h1 i k (by omega) hik hk
    · intro h
      exact ⟨fun i k hi hik hk => h i k (by omega) hik hk, fun j hj => h m (m + 1 + j) (by omega) (by omega) (by omega)⟩
theorem vio_nil {A : List (List Int)} {L : List Int} : viK A L L.length = [] ↔ NoVio A L := by
  rw [viK_nil L.length (Nat.le_refl _)]
  exact ⟨fun h i k hik hk => h i k (by omega) hik hk, fun h i k _ hik hk => h i k hik hk⟩
theorem den_violations {D A : List (List Int)} (h : PrD D A) (L : List Int) (hS : StOk D L) : Den Try.prog 35 [proV D A, ints L] (intss (viK A L L.length)) := by
  have hn := h.few
  have hlA := h.len
  have hL := hS.1
  have tr : ∀ V : List (List Int), treeL (mapC ints V) = true := fun V => treeL_mapC _ _ fun r => treeL_mapC _ _ fun _ => rfl
  refine den_of_awpG (ghs [] [2, 43, 44]) Try.func35 rfl (by kernel_rfl) (Nat.le_of_ble_eq_true rfl) (by simp only [treeL, AVal.tree, treeL_i, treeL_ints, treeL_u8, treeL_append, Bool.and_self, Bool.and_true, Bool.true_and]) (by first | rfl | simp only [treeL, AVal.tree, treeL_i, treeL_ints, treeL_u8, treeL_append, Bool.and_self, Bool.and_true, Bool.true_and]) mixed (by kernel_rfl) fun hl => ?_
  simp only [lensL, lens, lensL_i, lensL_mapC, maxI, and_true, true_and] at hl
  rw [Try.ntmps35]
  refine ex_start ?_
  simp (config := { maxSteps := 1000000 }) +decide only [NoH, Old, OldL, nilQ, nilA, asgn, nz, RechL, ReY, isNew, stepO, XPost, postN, XOk, updN, updU, isEff, avalue, aeff, ASt.eval, ASt.put, ASt.set, ASt.new, Nat.reduceDiv, Nat.reduceAdd, Int.reduceToNat, absV, absC, scalar, alen, acap, conc, flats, live, blkOf, aload, rd, part?, afieldAddr, afield, aindexAddr, cellsOf, afill, places, abuild, optI, asliceV, asliceS, szOk, srcCells, aappend, acopy, aclear, astore, amakeSlice, abuildSlice, snapL, mapO, treeL, AVal.tree, AVal.flatT, isFlat, ares, isFz, afroz, afrozB, lookupA, lookupH, tops, if_true, if_false, reduceCtorEq, forall_const, ite_true, ite_false, implies_true, walkS, tabS, Try.results35]
  refine ex_loop (fun p : {p : Nat × Nat × Nat // p.1 ≤ L.length} => mkG (ghs [] [2, 43, 44]) [(1, ints L), (2, proP D A), (5, .own 45 p.1.2.1 0 (viK A L p.1.1).length), (9, .i L.length), (10, .i p.1.1)] [(45, ⟨p.1.2.1, 1, mapC ints (viK A L p.1.1)⟩)] p.1.2.2 48) (fun p => L.length - p.1.1) ⟨(0, 0, 1), Nat.zero_le _⟩ ?_ ?_
  · refine weak_mk rfl (by first | exact Nat.le_refl _ | (simp only [mk_gen]; omega)) ?_ ?_ <;> simp +decide only [w_lookup_nil, w_lookup_cons, ch_ch, ch_lit, lit_ch, wkT, wkH, wkB, WVL, WV_refl', Int.natCast_zero, Int.natCast_add, Int.natCast_one, Nat.sub_self, Nat.sub_zero, List.replicate_zero, List.take_zero, List.nil_append, List.append_nil, fillC_zero, Nat.reduceDiv, Nat.reduceAdd, upd_bk, bk_at, getB_zero, getB_succ, modB_zero, modB_succ, rows_lit, repB_zero, repB_succ, List.length_cons, List.length_nil, upd_upd_same, upd_apply, mk_tmp, mk_heap, mk_gen, lookupA, lookupH, List.getD_cons_zero, List.getD_cons_succ, init_two, tops, Bool.true_and, and_self, and_true, true_and, true_or, if_true, if_false, ite_true, ite_false, reduceCtorEq, reduceIte, viK, mapC_nil, List.length_nil]
    exact WV_nl rfl rfl rfl rfl
  rintro ⟨⟨i, g, G⟩, hi⟩
  have hi' : i ≤ L.length := hi
  by_cases ilt : i < L.length
  case neg =>
    have e : i = L.length := by omega
    subst e
    have iI : ¬ (L.length : Int) < (L.length : Int) := by omega
    have t1 : List.take (viK A L L.length).length (viK A L L.length) = viK A L L.length := List.take_length
    have tV := tr (viK A L L.length)
    simp (config := { maxSteps := 1000000 }) +decide only [NoH, Old, OldL, nilQ, nilA, asgn, nz, RechL, ReY, isNew, stepO, XPost, postN, XOk, updN, updU, isEff, avalue, aeff, ASt.eval, ASt.put, ASt.set, ASt.new, Nat.reduceDiv, Nat.reduceAdd, Int.reduceToNat, absV, absC, scalar, alen, acap, conc, flats, live, blkOf, aload, rd, part?, afieldAddr, afield, aindexAddr, cellsOf, afill, places, abuild, optI, asliceV, asliceS, szOk, srcCells, aappend, acopy, aclear, astore, amakeSlice, abuildSlice, snapL, mapO, treeL, AVal.tree, AVal.flatT, isFlat, ares, isFz, afroz, afrozB, lookupA, lookupH, tops, if_true, if_false, reduceCtorEq, forall_const, ite_true, ite_false, implies_true, walkS, tabS, Try.results35, eq_false iI, t1, tV]
    try rfl
  have iI : (i : Int) < (L.length : Int) := by omega
  have wi : IntKind.i64.wrap ((i : Int) + 1) = ((i + 1 : Nat) : Int) := wrap64 (by omega) (by omega)
  have vl := viK_len A L i
  have il : i * L.length ≤ 24 * 24 := Nat.mul_le_mul (by omega) (by omega)
  simp (config := { maxSteps := 1000000 }) +decide only [NoH, Old, OldL, nilQ, nilA, asgn, nz, RechL, ReY, isNew, stepO, XPost, postN, XOk, updN, updU, isEff, avalue, aeff, ASt.eval, ASt.put, ASt.set, ASt.new, Nat.reduceDiv, Nat.reduceAdd, Int.reduceToNat, absV, absC, scalar, alen, acap, conc, flats, live, blkOf, aload, rd, part?, afieldAddr, afield, aindexAddr, cellsOf, afill, places, abuild, optI, asliceV, asliceS, szOk, srcCells, aappend, acopy, aclear, astore, amakeSlice, abuildSlice, snapL, mapO, treeL, AVal.tree, AVal.flatT, isFlat, ares, isFz, afroz, afrozB, lookupA, lookupH, tops, if_true, if_false, reduceCtorEq, forall_const, ite_true, ite_false, implies_true, walkS, tabS, Try.results35, eq_true iI, wi]
  refine ex_loop (fun p : {p : Nat × Nat × Nat // i + 1 + p.1 ≤ L.length} => mkG (ghs [] [2, 43, 44]) [(1, ints L), (2, proP D A), (5, .own 45 p.1.2.1 0 (vrK A L i (viK A L i) p.1.1).length), (6, .i i), (7, .i (i + 1 + p.1.1 : Nat)), (9, .i L.length), (10, .i i)] [(45, ⟨p.1.2.1, 1, mapC ints (vrK A L i (viK A L i) p.1.1)⟩)] p.1.2.2 48) (fun p => L.length - p.1.1) ⟨(0, g, G), ilt⟩ ?_ ?_
  · refine weak_mk rfl (by first | exact Nat.le_refl _ | (simp only [mk_gen]; omega)) ?_ ?_ <;> simp +decide only [w_lookup_nil, w_lookup_cons, ch_ch, ch_lit, lit_ch, wkT, wkH, wkB, WVL, WV_refl', Int.natCast_zero, Int.natCast_add, Int.natCast_one, Nat.sub_self, Nat.sub_zero, List.replicate_zero, List.take_zero, List.nil_append, List.append_nil, fillC_zero, Nat.reduceDiv, Nat.reduceAdd, upd_bk, bk_at, getB_zero, getB_succ, modB_zero, modB_succ, rows_lit, repB_zero, repB_succ, List.length_cons, List.length_nil, upd_upd_same, upd_apply, mk_tmp, mk_heap, mk_gen, lookupA, lookupH, List.getD_cons_zero, List.getD_cons_succ, init_two, tops, Bool.true_and, and_self, and_true, true_and, true_or, if_true, if_false, ite_true, ite_false, reduceCtorEq, reduceIte, vrK, Nat.add_zero]
  rintro ⟨⟨d, g2, G2⟩, hd⟩
  have hd' : i + 1 + d ≤ L.length := hd
  by_cases dlt : i + 1 + d < L.length
  case neg =>
    have e : d = L.length - (i + 1) := by omega
    have dI : ¬ ((i + 1 + d : Nat) : Int) < (L.length : Int) := by omega
    have ev : vrK A L i (viK A L i) d = viK A L (i + 1) := by rw [e]; rfl
    rw [ev]
    simp (config := { maxSteps := 1000000 }) +decide only [NoH, Old, OldL, nilQ, nilA, asgn, nz, RechL, ReY, isNew, stepO, XPost, postN, XOk, updN, updU, isEff, avalue, aeff, ASt.eval, ASt.put, ASt.set, ASt.new, Nat.reduceDiv, Nat.reduceAdd, Int.reduceToNat, absV, absC, scalar, alen, acap, conc, flats, live, blkOf, aload, rd, part?, afieldAddr, afield, aindexAddr, cellsOf, afill, places, abuild, optI, asliceV, asliceS, szOk, srcCells, aappend, acopy, aclear, astore, amakeSlice, abuildSlice, snapL, mapO, treeL, AVal.tree, AVal.flatT, isFlat, ares, isFz, afroz, afrozB, lookupA, lookupH, tops, if_true, if_false, reduceCtorEq, forall_const, ite_true, ite_false, implies_true, walkS, tabS, Try.results35, eq_false dI, wi]
    refine ⟨⟨(i + 1, g2, G2), ilt⟩, ?_, by show L.length - (i + 1) < L.length - i; omega⟩
    refine weak_mk rfl (by first | exact Nat.le_refl _ | (simp only [mk_gen]; omega)) ?_ ?_ <;> simp +decide only [w_lookup_nil, w_lookup_cons, ch_ch, ch_lit, lit_ch, wkT, wkH, wkB, WVL, WV_refl', Int.natCast_zero, Int.natCast_add, Int.natCast_one, Nat.sub_self, Nat.sub_zero, List.replicate_zero, List.take_zero, List.nil_append, List.append_nil, fillC_zero, Nat.reduceDiv, Nat.reduceAdd, upd_bk, bk_at, getB_zero, getB_succ, modB_zero, modB_succ, rows_lit, repB_zero, repB_succ, List.length_cons, List.length_nil, upd_upd_same, upd_apply, mk_tmp, mk_heap, mk_gen, lookupA, lookupH, List.getD_cons_zero, List.getD_cons_succ, init_two, tops, Bool.true_and, and_self, and_true, true_and, true_or, if_true, if_false, ite_true, ite_false, reduceCtorEq, reduceIte]
  have dI : ((i + 1 + d : Nat) : Int) < (L.length : Int) := by omega
  have wd : IntKind.i64.wrap (((i + 1 + d : Nat) : Int) + 1) = ((i + 1 + (d + 1) : Nat) : Int) := wrap64 (by omega) (by omega)
  have iA : i < A.length := by omega
  have hri := h.rl iA
  have kr : i + 1 + d < A[i].length := by omega
  have eap : ap A (i : Int) ((i + 1 + d : Nat) : Int) = A[i][i + 1 + d] := by
    unfold ap
    rw [Int.toNat_natCast, Int.toNat_natCast]
    exact gdd iA kr
  have e1 : L.getD i 0 = L[i] := by rw [List.getD_eq_getElem?_getD, List.getElem?_eq_getElem ilt, Option.getD_some]
  have e2 : L.getD (i + 1 + d) 0 = L[i + 1 + d] := by rw [List.getD_eq_getElem?_getD, List.getElem?_eq_getElem dlt, Option.getD_some]
  have x1 := hS.2 _ (List.getElem_mem ilt)
  have x2 := hS.2 _ (List.getElem_mem dlt)
  have ws : IntKind.i64.wrap (L[i] - L[i + 1 + d]) = L[i] - L[i + 1 + d] := wrap64 (by omega) (by omega)
  have vl2 := (vrK_len A L i (viK A L i) d).2
  have h9 : ((vrK A L i (viK A L i) d).length + 1) * 24 ≤ 140737488355328 := by omega
  have tk : List.take (vrK A L i (viK A L i) d).length (vrK A L i (viK A L i) d) = vrK A L i (viK A L i) d := List.take_length
  have tV := tr (vrK A L i (viK A L i) d)
  have es : vrK A L i (viK A L i) (d + 1) = if bp (Near L[i] L[i + 1 + d] A[i][i + 1 + d]) = true then vrK A L i (viK A L i) d ++ [[(i : Int), ((i + 1 + d : Nat) : Int)]] else vrK A L i (viK A L i) d := by
    rw [← e1, ← e2, ← eap]
    rfl
  simp (config := { maxSteps := 1000000 }) +decide only [NoH, Old, OldL, nilQ, nilA, asgn, nz, RechL, ReY, isNew, stepO, XPost, postN, XOk, updN, updU, isEff, avalue, aeff, ASt.eval, ASt.put, ASt.set, ASt.new, Nat.reduceDiv, Nat.reduceAdd, Int.reduceToNat, absV, absC, scalar, alen, acap, conc, flats, live, blkOf, aload, rd, part?, afieldAddr, afield, aindexAddr, cellsOf, afill, places, abuild, optI, asliceV, asliceS, szOk, srcCells, aappend, acopy, aclear, astore, amakeSlice, abuildSlice, snapL, mapO, treeL, AVal.tree, AVal.flatT, isFlat, ares, isFz, afroz, afrozB, lookupA, lookupH, tops, if_true, if_false, reduceCtorEq, forall_const, ite_true, ite_false, implies_true, walkS, tabS, Try.results35, eq_true dI, dlt, ilt, iI, ws]
  refine callK (den_absP (L[i] - L[i + 1 + d]) (by omega)) (by first | exact .inl rfl | exact .inr rfl) ?_
  by_cases h3 : max (L[i] - L[i + 1 + d]) (-(L[i] - L[i + 1 + d])) < A[i][i + 1 + d]
  · have hN : Near L[i] L[i + 1 + d] A[i][i + 1 + d] := by unfold Near; omega
    rw [if_pos (by rw [bp_true]; exact hN)] at es
    have el : (vrK A L i (viK A L i) d).length + 1 = (vrK A L i (viK A L i) (d + 1)).length := by rw [es]; simp
    rw [el] at h9
    have ec : mapC ints (vrK A L i (viK A L i) d) ++ [.lst [.i i, .i (i + 1 + d : Nat)] 2] = mapC ints (vrK A L i (viK A L i) (d + 1)) := by rw [es]; simp [mapC]
    simp (config := { maxSteps := 1000000 }) +decide only [NoH, Old, OldL, nilQ, nilA, asgn, nz, RechL, ReY, isNew, stepO, XPost, postN, XOk, updN, updU, isEff, avalue, aeff, ASt.eval, ASt.put, ASt.set, ASt.new, Nat.reduceDiv, Nat.reduceAdd, Int.reduceToNat, absV, absC, scalar, alen, acap, conc, flats, live, blkOf, aload, rd, part?, afieldAddr, afield, aindexAddr, cellsOf, afill, places, abuild, optI, asliceV, asliceS, szOk, srcCells, aappend, acopy, aclear, astore, amakeSlice, abuildSlice, snapL, mapO, treeL, AVal.tree, AVal.flatT, isFlat, ares, isFz, afroz, afrozB, lookupA, lookupH, tops, if_true, if_false, reduceCtorEq, forall_const, ite_true, ite_false, implies_true, walkS, tabS, Try.results35, iA, kr, dlt, eq_true h3, wd, h9, tk, tV, ec, el, List.replicate_succ, List.flatten_cons, List.flatten_nil]
    refine ⟨⟨(d + 1, G2, G2 + 1), by show i + 1 + (d + 1) ≤ _; omega⟩, ?_, by show L.length - (d + 1) < L.length - d; omega⟩
    refine weak_mk rfl (by first | exact Nat.le_refl _ | (simp only [mk_gen]; omega)) ?_ ?_ <;> simp +decide only [w_lookup_nil, w_lookup_cons, ch_ch, ch_lit, lit_ch, wkT, wkH, wkB, WVL, WV_refl', Int.natCast_zero, Int.natCast_add, Int.natCast_one, Nat.sub_self, Nat.sub_zero, List.replicate_zero, List.take_zero, List.nil_append, List.append_nil, fillC_zero, Nat.reduceDiv, Nat.reduceAdd, upd_bk, bk_at, getB_zero, getB_succ, modB_zero, modB_succ, rows_lit, repB_zero, repB_succ, List.length_cons, List.length_nil, upd_upd_same, upd_apply, mk_tmp, mk_heap, mk_gen, lookupA, lookupH, List.getD_cons_zero, List.getD_cons_succ, init_two, tops, Bool.true_and, and_self, and_true, true_and, true_or, if_true, if_false, ite_true, ite_false, reduceCtorEq, reduceIte]
  · have hN : ¬ Near L[i] L[i + 1 + d] A[i][i + 1 + d] := by unfold Near; omega
    rw [if_neg (by rw [bp_true]; exact hN)] at es
    simp (config := { maxSteps := 1000000 }) +decide only [NoH, Old, OldL, nilQ, nilA, asgn, nz, RechL, ReY, isNew, stepO, XPost, postN, XOk, updN, updU, isEff, avalue, aeff, ASt.eval, ASt.put, ASt.set, ASt.new, Nat.reduceDiv, Nat.reduceAdd, Int.reduceToNat, absV, absC, scalar, alen, acap, conc, flats, live, blkOf, aload, rd, part?, afieldAddr, afield, aindexAddr, cellsOf, afill, places, abuild, optI, asliceV, asliceS, szOk, srcCells, aappend, acopy, aclear, astore, amakeSlice, abuildSlice, snapL, mapO, treeL, AVal.tree, AVal.flatT, isFlat, ares, isFz, afroz, afrozB, lookupA, lookupH, tops, if_true, if_false, reduceCtorEq, forall_const, ite_true, ite_false, implies_true, walkS, tabS, Try.results35, iA, kr, dlt, eq_false h3, wd]
    refine ⟨⟨(d + 1, g2, G2), by show i + 1 + (d + 1) ≤ _; omega⟩, ?_, by show L.length - (d + 1) < L.length - d; omega⟩
    refine weak_mk rfl (by first | exact Nat.le_refl _ | (simp only [mk_gen]; omega)) ?_ ?_ <;> simp +decide only [w_lookup_nil, w_lookup_cons, ch_ch, ch_lit, lit_ch, wkT, wkH, wkB, WVL, WV_refl', Int.natCast_zero, Int.natCast_add, Int.natCast_one, Nat.sub_self, Nat.sub_zero, List.replicate_zero, List.take_zero, List.nil_append, List.append_nil, fillC_zero, Nat.reduceDiv, Nat.reduceAdd, upd_bk, bk_at, getB_zero, getB_succ, modB_zero, modB_succ, rows_lit, repB_zero, repB_succ, List.length_cons, List.length_nil, upd_upd_same, upd_apply, mk_tmp, mk_heap, mk_gen, lookupA, lookupH, List.getD_cons_zero, List.getD_cons_succ, init_two, tops, Bool.true_and, and_self, and_true, true_and, true_or, if_true, if_false, ite_true, ite_false, reduceCtorEq, reduceIte, es]
theorem den_implValidA {D A : List (List Int)} (h : PrD D A) (L : List Int) (hS : StOk D L) : Den Try.prog 10 [proV D A, ints L] (.b (bp (FitOk D L ∧ NoVio A L))) := by
  have hn := h.few
  have hlA := h.len
  refine den_of_awpG (ghs [] [2]) Try.func10 rfl (by kernel_rfl) (Nat.le_of_ble_eq_true rfl) (by simp only [treeL, AVal.tree, treeL_i, treeL_ints, treeL_u8, treeL_append, Bool.and_self, Bool.and_true, Bool.true_and]) (by first | rfl | simp only [treeL, AVal.tree, treeL_i, treeL_ints, treeL_u8, treeL_append, Bool.and_self, Bool.and_true, Bool.true_and]) mixed (by kernel_rfl) fun hl => ?_
  simp only [lensL, lens, lensL_i, lensL_mapC, maxI, and_true, true_and] at hl
  rw [Try.ntmps10]
  refine ex_start ?_
  simp (config := { maxSteps := 1000000 }) +decide only [NoH, Old, OldL, nilQ, nilA, asgn, nz, RechL, ReY, isNew, stepO, XPost, postN, XOk, updN, updU, isEff, avalue, aeff, ASt.eval, ASt.put, ASt.set, ASt.new, Nat.reduceDiv, Nat.reduceAdd, Int.reduceToNat, absV, absC, scalar, alen, acap, conc, flats, live, blkOf, aload, rd, part?, afieldAddr, afield, aindexAddr, cellsOf, afill, places, abuild, optI, asliceV, asliceS, szOk, srcCells, aappend, acopy, aclear, astore, amakeSlice, abuildSlice, snapL, mapO, treeL, AVal.tree, AVal.flatT, isFlat, ares, isFz, afroz, afrozB, lookupA, lookupH, tops, if_true, if_false, reduceCtorEq, forall_const, ite_true, ite_false, implies_true, walkS, tabS, Try.results10]
  refine callK (den_ValidProblemG D A (by omega)) (by first | exact .inl rfl | exact .inr rfl) ?_
  simp (config := { maxSteps := 1000000 }) +decide only [NoH, Old, OldL, nilQ, nilA, asgn, nz, RechL, ReY, isNew, stepO, XPost, postN, XOk, updN, updU, isEff, avalue, aeff, ASt.eval, ASt.put, ASt.set, ASt.new, Nat.reduceDiv, Nat.reduceAdd, Int.reduceToNat, absV, absC, scalar, alen, acap, conc, flats, live, blkOf, aload, rd, part?, afieldAddr, afield, aindexAddr, cellsOf, afill, places, abuild, optI, asliceV, asliceS, szOk, srcCells, aappend, acopy, aclear, astore, amakeSlice, abuildSlice, snapL, mapO, treeL, AVal.tree, AVal.flatT, isFlat, ares, isFz, afroz, afrozB, lookupA, lookupH, tops, if_true, if_false, reduceCtorEq, forall_const, ite_true, ite_false, implies_true, walkS, tabS, Try.results10, eq_true h]
  refine callK (den_isAssignment h L hS.1) (by first | exact .inl rfl | exact .inr rfl) ?_
  by_cases c1 : FitOk D L
  case neg =>
    have no : ¬ (FitOk D L ∧ NoVio A L) := fun h => c1 h.1
    simp (config := { maxSteps := 1000000 }) +decide only [NoH, Old, OldL, nilQ, nilA, asgn, nz, RechL, ReY, isNew, stepO, XPost, postN, XOk, updN, updU, isEff, avalue, aeff, ASt.eval, ASt.put, ASt.set, ASt.new, Nat.reduceDiv, Nat.reduceAdd, Int.reduceToNat, absV, absC, scalar, alen, acap, conc, flats, live, blkOf, aload, rd, part?, afieldAddr, afield, aindexAddr, cellsOf, afill, places, abuild, optI, asliceV, asliceS, szOk, srcCells, aappend, acopy, aclear, astore, amakeSlice, abuildSlice, snapL, mapO, treeL, AVal.tree, AVal.flatT, isFlat, ares, isFz, afroz, afrozB, lookupA, lookupH, tops, if_true, if_false, reduceCtorEq, forall_const, ite_true, ite_false, implies_true, walkS, tabS, Try.results10, eq_false c1, eq_false no]
  simp (config := { maxSteps := 1000000 }) +decide only [NoH, Old, OldL, nilQ, nilA, asgn, nz, RechL, ReY, isNew, stepO, XPost, postN, XOk, updN, updU, isEff, avalue, aeff, ASt.eval, ASt.put, ASt.set, ASt.new, Nat.reduceDiv, Nat.reduceAdd, Int.reduceToNat, absV, absC, scalar, alen, acap, conc, flats, live, blkOf, aload, rd, part?, afieldAddr, afield, aindexAddr, cellsOf, afill, places, abuild, optI, asliceV, asliceS, szOk, srcCells, aappend, acopy, aclear, astore, amakeSlice, abuildSlice, snapL, mapO, treeL, AVal.tree, AVal.flatT, isFlat, ares, isFz, afroz, afrozB, lookupA, lookupH, tops, if_true, if_false, reduceCtorEq, forall_const, ite_true, ite_false, implies_true, walkS, tabS, Try.results10, eq_true c1]
  refine callK (den_violations h L hS) (by first | exact .inl rfl | exact .inr rfl) ?_
  by_cases c2 : NoVio A L
  · have e0 : viK A L L.length = [] := vio_nil.2 c2
    rw [e0]
    have yes : FitOk D L ∧ NoVio A L := ⟨c1, c2⟩
    simp (config := { maxSteps := 1000000 }) +decide only [NoH, Old, OldL, nilQ, nilA, asgn, nz, RechL, ReY, isNew, stepO, XPost, postN, XOk, updN, updU, isEff, avalue, aeff, ASt.eval, ASt.put, ASt.set, ASt.new, Nat.reduceDiv, Nat.reduceAdd, Int.reduceToNat, absV, absC, scalar, alen, acap, conc, flats, live, blkOf, aload, rd, part?, afieldAddr, afield, aindexAddr, cellsOf, afill, places, abuild, optI, asliceV, asliceS, szOk, srcCells, aappend, acopy, aclear, astore, amakeSlice, abuildSlice, snapL, mapO, treeL, AVal.tree, AVal.flatT, isFlat, ares, isFz, afroz, afrozB, lookupA, lookupH, tops, if_true, if_false, reduceCtorEq, forall_const, ite_true, ite_false, implies_true, walkS, tabS, Try.results10, eq_true c2]
  · have e0 : ¬ ((viK A L L.length).length : Int) = 0 := fun e => c2 (vio_nil.1 (List.eq_nil_of_length_eq_zero (by omega)))
    have no : ¬ (FitOk D L ∧ NoVio A L) := fun h => c2 h.2
    generalize viK A L L.length = V at *
    simp (config := { maxSteps := 1000000 }) +decide only [NoH, Old, OldL, nilQ, nilA, asgn, nz, RechL, ReY, isNew, stepO, XPost, postN, XOk, updN, updU, isEff, avalue, aeff, ASt.eval, ASt.put, ASt.set, ASt.new, Nat.reduceDiv, Nat.reduceAdd, Int.reduceToNat, absV, absC, scalar, alen, acap, conc, flats, live, blkOf, aload, rd, part?, afieldAddr, afield, aindexAddr, cellsOf, afill, places, abuild, optI, asliceV, asliceS, szOk, srcCells, aappend, acopy, aclear, astore, amakeSlice, abuildSlice, snapL, mapO, treeL, AVal.tree, AVal.flatT, isFlat, ares, isFz, afroz, afrozB, lookupA, lookupH, tops, if_true, if_false, reduceCtorEq, forall_const, ite_true, ite_false, implies_true, walkS, tabS, Try.results10, eq_false e0, eq_false c2]
theorem den_ChangesBetween (L M : List Int) (hL : L.length = M.length) (hb : L.length ≤ 1000000) : Den Try.prog 11 [ints L, ints M] (.i (dfK L M L.length)) := by
  have hLI : (L.length : Int) = (M.length : Int) := by omega
  refine den_of_awp Try.func11 rfl (by kernel_rfl) (Nat.le_of_ble_eq_true rfl) (by simp only [treeL, AVal.tree, treeL_i, treeL_ints, treeL_u8, treeL_append, Bool.and_self, Bool.and_true, Bool.true_and]) (by first | rfl | simp only [treeL, AVal.tree, treeL_i, treeL_ints, treeL_u8, treeL_append, Bool.and_self, Bool.and_true, Bool.true_and]) mixed (by kernel_rfl) fun hl => ?_
  simp only [lensL, lens, lensL_i, lensL_mapC, maxI, and_true, true_and] at hl
  rw [Try.ntmps11]
  refine ex_start ?_
  simp (config := { maxSteps := 1000000 }) +decide only [NoH, Old, OldL, nilQ, nilA, asgn, nz, RechL, ReY, isNew, stepO, XPost, postN, XOk, updN, updU, isEff, avalue, aeff, ASt.eval, ASt.put, ASt.set, ASt.new, Nat.reduceDiv, Nat.reduceAdd, Int.reduceToNat, absV, absC, scalar, alen, acap, conc, flats, live, blkOf, aload, rd, part?, afieldAddr, afield, aindexAddr, cellsOf, afill, places, abuild, optI, asliceV, asliceS, szOk, srcCells, aappend, acopy, aclear, astore, amakeSlice, abuildSlice, snapL, mapO, treeL, AVal.tree, AVal.flatT, isFlat, ares, isFz, afroz, afrozB, lookupA, lookupH, tops, if_true, if_false, reduceCtorEq, forall_const, ite_true, ite_false, implies_true, walkS, tabS, Try.results11, eq_true hLI]
  refine ex_loop (fun k : {k : Nat // k ≤ L.length} => mk [(0, ints L), (1, ints M), (5, .i (dfK L M k.1)), (13, .i L.length), (14, .i k.1)] [] 0 30) (fun k => L.length - k.1) ⟨0, Nat.zero_le _⟩ ?_ ?_
  · refine weak_mk rfl (by first | exact Nat.le_refl _ | (simp only [mk_gen]; omega)) ?_ ?_ <;> simp +decide only [w_lookup_nil, w_lookup_cons, ch_ch, ch_lit, lit_ch, wkT, wkH, wkB, WVL, WV_refl', Int.natCast_zero, Int.natCast_add, Int.natCast_one, Nat.sub_self, Nat.sub_zero, List.replicate_zero, List.take_zero, List.nil_append, List.append_nil, fillC_zero, Nat.reduceDiv, Nat.reduceAdd, upd_bk, bk_at, getB_zero, getB_succ, modB_zero, modB_succ, rows_lit, repB_zero, repB_succ, List.length_cons, List.length_nil, upd_upd_same, upd_apply, mk_tmp, mk_heap, mk_gen, lookupA, lookupH, List.getD_cons_zero, List.getD_cons_succ, init_two, tops, Bool.true_and, and_self, and_true, true_and, true_or, if_true, if_false, ite_true, ite_false, reduceCtorEq, reduceIte, dfK]
  rintro ⟨k, hk⟩
  have hk' : k ≤ L.length := hk
  by_cases hlt : k < L.length
  case neg =>
    have e : k = L.length := by omega
    subst e
    have hltI : ¬ (L.length : Int) < (L.length : Int) := by omega
    simp (config := { maxSteps := 1000000 }) +decide only [NoH, Old, OldL, nilQ, nilA, asgn, nz, RechL, ReY, isNew, stepO, XPost, postN, XOk, updN, updU, isEff, avalue, aeff, ASt.eval, ASt.put, ASt.set, ASt.new, Nat.reduceDiv, Nat.reduceAdd, Int.reduceToNat, absV, absC, scalar, alen, acap, conc, flats, live, blkOf, aload, rd, part?, afieldAddr, afield, aindexAddr, cellsOf, afill, places, abuild, optI, asliceV, asliceS, szOk, srcCells, aappend, acopy, aclear, astore, amakeSlice, abuildSlice, snapL, mapO, treeL, AVal.tree, AVal.flatT, isFlat, ares, isFz, afroz, afrozB, lookupA, lookupH, tops, if_true, if_false, reduceCtorEq, forall_const, ite_true, ite_false, implies_true, walkS, tabS, Try.results11, eq_false hltI]
  have hltI : (k : Int) < (L.length : Int) := by omega
  have hltM : k < M.length := by omega
  have hw : IntKind.i64.wrap ((k : Int) + 1) = ((k + 1 : Nat) : Int) := wrap64 (by omega) (by omega)
  have hin := dfK_in L M k
  have hw2 : IntKind.i64.wrap (dfK L M k + 1) = dfK L M k + 1 := wrap64 (by omega) (by omega)
  have e1 : L.getD k 0 = L[k] := by rw [List.getD_eq_getElem?_getD, List.getElem?_eq_getElem hlt, Option.getD_some]
  have e2 : M.getD k 0 = M[k] := by rw [List.getD_eq_getElem?_getD, List.getElem?_eq_getElem hltM, Option.getD_some]
  have es : dfK L M (k + 1) = if L[k] = M[k] then dfK L M k else dfK L M k + 1 := by rw [← e1, ← e2]; rfl
  by_cases c : L[k] = M[k]
  · rw [if_pos c] at es
    simp (config := { maxSteps := 1000000 }) +decide only [NoH, Old, OldL, nilQ, nilA, asgn, nz, RechL, ReY, isNew, stepO, XPost, postN, XOk, updN, updU, isEff, avalue, aeff, ASt.eval, ASt.put, ASt.set, ASt.new, Nat.reduceDiv, Nat.reduceAdd, Int.reduceToNat, absV, absC, scalar, alen, acap, conc, flats, live, blkOf, aload, rd, part?, afieldAddr, afield, aindexAddr, cellsOf, afill, places, abuild, optI, asliceV, asliceS, szOk, srcCells, aappend, acopy, aclear, astore, amakeSlice, abuildSlice, snapL, mapO, treeL, AVal.tree, AVal.flatT, isFlat, ares, isFz, afroz, afrozB, lookupA, lookupH, tops, if_true, if_false, reduceCtorEq, forall_const, ite_true, ite_false, implies_true, walkS, tabS, Try.results11, eq_true hltI, hlt, hltM, eq_true c, hw]
    refine ⟨⟨k + 1, hlt⟩, ?_, by show L.length - (k + 1) < L.length - k; omega⟩
    refine weak_mk rfl (by first | exact Nat.le_refl _ | (simp only [mk_gen]; omega)) ?_ ?_ <;> simp +decide only [w_lookup_nil, w_lookup_cons, ch_ch, ch_lit, lit_ch, wkT, wkH, wkB, WVL, WV_refl', Int.natCast_zero, Int.natCast_add, Int.natCast_one, Nat.sub_self, Nat.sub_zero, List.replicate_zero, List.take_zero, List.nil_append, List.append_nil, fillC_zero, Nat.reduceDiv, Nat.reduceAdd, upd_bk, bk_at, getB_zero, getB_succ, modB_zero, modB_succ, rows_lit, repB_zero, repB_succ, List.length_cons, List.length_nil, upd_upd_same, upd_apply, mk_tmp, mk_heap, mk_gen, lookupA, lookupH, List.getD_cons_zero, List.getD_cons_succ, init_two, tops, Bool.true_and, and_self, and_true, true_and, true_or, if_true, if_false, ite_true, ite_false, reduceCtorEq, reduceIte, es]
  · rw [if_neg c] at es
    simp (config := { maxSteps := 1000000 }) +decide only [NoH, Old, OldL, nilQ, nilA, asgn, nz, RechL, ReY, isNew, stepO, XPost, postN, XOk, updN, updU, isEff, avalue, aeff, ASt.eval, ASt.put, ASt.set, ASt.new, Nat.reduceDiv, Nat.reduceAdd, Int.reduceToNat, absV, absC, scalar, alen, acap, conc, flats, live, blkOf, aload, rd, part?, afieldAddr, afield, aindexAddr, cellsOf, afill, places, abuild, optI, asliceV, asliceS, szOk, srcCells, aappend, acopy, aclear, astore, amakeSlice, abuildSlice, snapL, mapO, treeL, AVal.tree, AVal.flatT, isFlat, ares, isFz, afroz, afrozB, lookupA, lookupH, tops, if_true, if_false, reduceCtorEq, forall_const, ite_true, ite_false, implies_true, walkS, tabS, Try.results11, eq_true hltI, hlt, hltM, eq_false c, hw, hw2]
    refine ⟨⟨k + 1, hlt⟩, ?_, by show L.length - (k + 1) < L.length - k; omega⟩
    refine weak_mk rfl (by first | exact Nat.le_refl _ | (simp only [mk_gen]; omega)) ?_ ?_ <;> simp +decide only [w_lookup_nil, w_lookup_cons, ch_ch, ch_lit, lit_ch, wkT, wkH, wkB, WVL, WV_refl', Int.natCast_zero, Int.natCast_add, Int.natCast_one, Nat.sub_self, Nat.sub_zero, List.replicate_zero, List.take_zero, List.nil_append, List.append_nil, fillC_zero, Nat.reduceDiv, Nat.reduceAdd, upd_bk, bk_at, getB_zero, getB_succ, modB_zero, modB_succ, rows_lit, repB_zero, repB_succ, List.length_cons, List.length_nil, upd_upd_same, upd_apply, mk_tmp, mk_heap, mk_gen, lookupA, lookupH, List.getD_cons_zero, List.getD_cons_succ, init_two, tops, Bool.true_and, and_self, and_true, true_and, true_or, if_true, if_false, ite_true, ite_false, reduceCtorEq, reduceIte, es]
end Go.Proofs.Ytkmhoebopfgpdaa
