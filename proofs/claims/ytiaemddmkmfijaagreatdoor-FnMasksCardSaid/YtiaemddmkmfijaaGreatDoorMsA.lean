/-
  OWN WORK: masks: losses at offsets, of the program and of the reference.
-/
import Derived.Test.YtiaemddmkmfijaaGreatDoorTeA
import Derived.Test.YtiaemddmkmfijaaGreatDoorLibA
namespace Go.Proofs.YtiaemddmkmfijaaGreatDoor
open Go Go.Own Go.Proofs
set_option maxHeartbeats 4000000
set_option maxRecDepth 20000
set_option linter.unusedSimpArgs false
set_option linter.unusedVariables false
/-- a valid mask -/
structure MkOk (O L : List Int) : Prop where
  n2 : 2 ≤ O.length
  n12 : O.length ≤ 12
  eq : L.length = O.length
  o0 : O.getD 0 0 = 0
  l0 : L.getD 0 0 = 0
  inc : ∀ i, 0 < i → i < O.length → O.getD (i - 1) 0 < O.getD i 0
  oM : ∀ x ∈ O, 0 ≤ x ∧ x ≤ 100000
  srt : ∀ i, 0 < i → i < O.length → L.getD (i - 1) 0 ≤ L.getD i 0
  lM : ∀ x ∈ L, 0 ≤ x ∧ x ≤ 120000
abbrev mkV (O L : List Int) : AVal := .agg [ints O, ints L]
abbrev mkP (O L : List Int) : AVal := .iptr [ints O, ints L] 0
theorem gD0 {L : List Int} {j : Nat} (h : j < L.length) : L.getD j 0 = L[j] := by simp [List.getD, h]
theorem cellM {L : List Int} {j : Nat} (h : j < L.length) : (mapC AVal.i L)[j]? = some (.i (L.getD j 0)) := by
  simp [mapC, List.getD, h]
theorem MkOk.oAt {O L : List Int} (h : MkOk O L) {i : Nat} (hi : i < O.length) : 0 ≤ O.getD i 0 ∧ O.getD i 0 ≤ 100000 := by
  rw [gD0 hi]; exact h.oM _ (List.getElem_mem hi)
theorem MkOk.lAt {O L : List Int} (h : MkOk O L) {i : Nat} (hi : i < O.length) : 0 ≤ L.getD i 0 ∧ L.getD i 0 ≤ 120000 := by
  have hi' : i < L.length := by rw [h.eq]; exact hi
  rw [gD0 hi']; exact h.lM _ (List.getElem_mem hi')
theorem MkOk.oLe {O L : List Int} (h : MkOk O L) : ∀ {i j : Nat}, i ≤ j → j < O.length → O.getD i 0 ≤ O.getD j 0 := by
  intro i j hij
  induction hij with
  | refl => exact fun _ => Int.le_refl _
  | step hm ih =>
    rename_i m
    intro hj
    have a := ih (by omega)
    have b := h.inc (m + 1) (by omega) hj
    rw [Nat.add_sub_cancel] at b
    show O.getD i 0 ≤ O.getD (m + 1) 0
    omega
theorem MkOk.oLt {O L : List Int} (h : MkOk O L) {i j : Nat} (hij : i < j) (hj : j < O.length) : O.getD i 0 < O.getD j 0 := by
  have a := h.inc j (by omega) hj
  have b := h.oLe (i := i) (j := j - 1) (by omega) (by omega)
  omega
theorem MkOk.lLe {O L : List Int} (h : MkOk O L) : ∀ {i j : Nat}, i ≤ j → j < O.length → L.getD i 0 ≤ L.getD j 0 := by
  intro i j hij
  induction hij with
  | refl => exact fun _ => Int.le_refl _
  | step hm ih =>
    rename_i m
    intro hj
    have a := ih (by omega)
    have b := h.srt (m + 1) (by omega) hj
    rw [Nat.add_sub_cancel] at b
    show L.getD i 0 ≤ L.getD (m + 1) 0
    omega
/-- the place of an offset -/
def kM (O : List Int) (t : Int) : Nat → Nat → Nat
  | 0, i => i
  | f + 1, i => if O.getD i 0 < t then kM O t f (i + 1) else i
theorem kM_is (O : List Int) (t : Int) : ∀ f i, (i ≤ kM O t f i ∧ kM O t f i ≤ i + f) ∧ (kM O t f i = i + f ∨ t ≤ O.getD (kM O t f i) 0) ∧ ∀ j, i ≤ j → j < kM O t f i → O.getD j 0 < t
  | 0, i => ⟨⟨Nat.le_refl _, Nat.le_refl _⟩, .inl rfl, fun j h1 h2 => absurd (show j < i from h2) (by omega)⟩
  | f + 1, i => by
    unfold kM
    by_cases c : O.getD i 0 < t
    · rw [if_pos c]
      obtain ⟨a1, a2, a3⟩ := kM_is O t f (i + 1)
      refine ⟨by omega, ?_, fun j h1 h2 => ?_⟩
      · rcases a2 with a2 | a2
        · exact .inl (by omega)
        · exact .inr a2
      · by_cases e : j = i
        · subst e; exact c
        · exact a3 j (by omega) h2
    · rw [if_neg c]
      exact ⟨by omega, .inr (by omega), fun j h1 h2 => by omega⟩
theorem kM_unique {O : List Int} {t : Int} {f i k : Nat} (h1 : i ≤ k ∧ k ≤ i + f) (h2 : k = i + f ∨ t ≤ O.getD k 0) (h3 : ∀ j, i ≤ j → j < k → O.getD j 0 < t) : kM O t f i = k := by
  obtain ⟨a1, a2, a3⟩ := kM_is O t f i
  refine Classical.byContradiction fun c => ?_
  by_cases l : kM O t f i < k
  · have := h3 _ a1.1 l
    rcases a2 with a2 | a2 <;> omega
  · have := a3 k h1.1 (by omega)
    rcases h2 with h2 | h2 <;> omega
/-- a line between two points -/
def lnX (x0 y0 x1 y1 x : Int) : Int := if x ≤ x0 ∨ x1 ≤ x0 then y0 else if x1 ≤ x then y1 else y0 + drV ((y1 - y0) * (x - x0)) (x1 - x0)
/-- the loss at the k-th piece -/
def pcV (O L : List Int) (k : Nat) (t : Int) : Int := lnX (O.getD (k - 1) 0) (L.getD (k - 1) 0) (O.getD k 0) (L.getD k 0) t
def lossV (O L : List Int) (x : Int) : Int := pcV O L (kM O (ab x) (O.length - 2) 1) (ab x)
theorem dr_in {P m q : Int} (hm : 0 < m) (h0 : 0 ≤ P) (h1 : P ≤ q * m) : 0 ≤ drV P m ∧ drV P m ≤ q := by
  have h := drV_is (n := P) hm
  obtain ⟨a, b⟩ := h
  constructor
  · refine Classical.byContradiction fun c => ?_
    have : m * drV P m ≤ m * (-1) := Int.mul_le_mul_of_nonneg_left (by omega) (by omega)
    omega
  · refine Classical.byContradiction fun c => ?_
    have : m * (q + 1) ≤ m * drV P m := Int.mul_le_mul_of_nonneg_left (by omega) (by omega)
    have e : m * (q + 1) = q * m + m := by grind
    omega
theorem lnX_in {x0 y0 x1 y1 : Int} (h : y0 ≤ y1) (x : Int) : y0 ≤ lnX x0 y0 x1 y1 x ∧ lnX x0 y0 x1 y1 x ≤ y1 := by
  unfold lnX
  split
  · omega
  · split
    · omega
    · have p0 : 0 ≤ (y1 - y0) * (x - x0) := Int.mul_nonneg (by omega) (by omega)
      have p1 : (y1 - y0) * (x - x0) ≤ (y1 - y0) * (x1 - x0) := Int.mul_le_mul_of_nonneg_left (by omega) (by omega)
      have := dr_in (m := x1 - x0) (by omega) p0 p1
      omega
theorem lnW {x0 y0 x1 y1 x : Int} (hx : 0 ≤ x0 ∧ x0 < x ∧ x < x1 ∧ x1 ≤ 100000) (hy : 0 ≤ y0 ∧ y0 ≤ y1 ∧ y1 ≤ 120000) : 0 ≤ (y1 - y0) * (x - x0) ∧ (y1 - y0) * (x - x0) ≤ 12000000000 ∧ 0 ≤ drV ((y1 - y0) * (x - x0)) (x1 - x0) ∧ drV ((y1 - y0) * (x - x0)) (x1 - x0) ≤ y1 - y0 := by
  have p0 : 0 ≤ (y1 - y0) * (x - x0) := Int.mul_nonneg (by omega) (by omega)
  have p1 : (y1 - y0) * (x - x0) ≤ (y1 - y0) * (x1 - x0) := Int.mul_le_mul_of_nonneg_left (by omega) (by omega)
  have p2 : (y1 - y0) * (x1 - x0) ≤ (y1 - y0) * 100000 := Int.mul_le_mul_of_nonneg_left (by omega) (by omega)
  have := dr_in (m := x1 - x0) (by omega) p0 p1
  omega
theorem den_blendM (x0 y0 x1 y1 x : Int) (hx : 0 ≤ x0 ∧ x0 < x1 ∧ x1 ≤ 100000) (hy : 0 ≤ y0 ∧ y0 ≤ y1 ∧ y1 ≤ 120000) : Den Tryz.prog 138 [.i x0, .i y0, .i x1, .i y1, .i x] (.i (lnX x0 y0 x1 y1 x)) := by
  refine den_of_awp Tryz.func138 rfl (by kernel_rfl) (Nat.le_of_ble_eq_true rfl) (by simp only [treeL, AVal.tree, treeL_i, treeL_ints, treeL_u8, treeL_append, Bool.and_self, Bool.and_true, Bool.true_and]) (by first | rfl | simp only [treeL, AVal.tree, treeL_i, treeL_ints, treeL_u8, treeL_append, Bool.and_self, Bool.and_true, Bool.true_and]) mixed (by kernel_rfl) fun hl => ?_
  simp only [lensL, lens, lensL_i, lensL_mapC, maxI, and_true, true_and] at hl
  rw [Tryz.ntmps138]
  refine ex_start ?_
  unfold lnX
  by_cases c1 : x ≤ x0
  · rw [if_pos (.inl c1)]
    simp (config := { maxSteps := 1000000 }) +decide only [NoH, Old, OldL, nilQ, nilA, asgn, nz, RechL, ReY, isNew, stepO, XPost, postN, XOk, updN, updU, isEff, avalue, aeff, ASt.eval, ASt.put, ASt.set, ASt.new, Nat.reduceDiv, Nat.reduceAdd, Int.reduceToNat, absV, absC, scalar, alen, acap, conc, flats, live, blkOf, aload, rd, part?, afieldAddr, afield, aindexAddr, cellsOf, afill, places, abuild, optI, asliceV, asliceS, szOk, srcCells, aappend, acopy, astore, amakeSlice, abuildSlice, snapL, mapO, treeL, AVal.tree, AVal.flatT, isFlat, ares, isFz, afroz, afrozB, lookupA, lookupH, tops, if_true, if_false, reduceCtorEq, forall_const, ite_true, ite_false, implies_true, walkS, tabS, Tryz.results138, eq_true c1]
  have c2 : ¬ x1 ≤ x0 := by omega
  rw [if_neg (by omega)]
  by_cases c3 : x1 ≤ x
  · rw [if_pos c3]
    simp (config := { maxSteps := 1000000 }) +decide only [NoH, Old, OldL, nilQ, nilA, asgn, nz, RechL, ReY, isNew, stepO, XPost, postN, XOk, updN, updU, isEff, avalue, aeff, ASt.eval, ASt.put, ASt.set, ASt.new, Nat.reduceDiv, Nat.reduceAdd, Int.reduceToNat, absV, absC, scalar, alen, acap, conc, flats, live, blkOf, aload, rd, part?, afieldAddr, afield, aindexAddr, cellsOf, afill, places, abuild, optI, asliceV, asliceS, szOk, srcCells, aappend, acopy, astore, amakeSlice, abuildSlice, snapL, mapO, treeL, AVal.tree, AVal.flatT, isFlat, ares, isFz, afroz, afrozB, lookupA, lookupH, tops, if_true, if_false, reduceCtorEq, forall_const, ite_true, ite_false, implies_true, walkS, tabS, Tryz.results138, eq_false c1, eq_false c2, eq_true c3]
  rw [if_neg c3]
  have k := lnW (x := x) (x0 := x0) (x1 := x1) (y0 := y0) (y1 := y1) (by omega) hy
  have w1 : IntKind.i64.wrap (y1 - y0) = y1 - y0 := wrap64 (by omega) (by omega)
  have w2 : IntKind.i64.wrap (x - x0) = x - x0 := wrap64 (by omega) (by omega)
  have w3 : IntKind.i64.wrap (x1 - x0) = x1 - x0 := wrap64 (by omega) (by omega)
  have w4 : IntKind.i64.wrap ((y1 - y0) * (x - x0)) = (y1 - y0) * (x - x0) := wrap64 (by omega) (by omega)
  have w5 : IntKind.i64.wrap (y0 + drV ((y1 - y0) * (x - x0)) (x1 - x0)) = y0 + drV ((y1 - y0) * (x - x0)) (x1 - x0) := wrap64 (by omega) (by omega)
  have dd := den_divRound ((y1 - y0) * (x - x0)) (x1 - x0) (by omega) (by omega) (by omega) (by omega)
  simp (config := { maxSteps := 1000000 }) +decide only [NoH, Old, OldL, nilQ, nilA, asgn, nz, RechL, ReY, isNew, stepO, XPost, postN, XOk, updN, updU, isEff, avalue, aeff, ASt.eval, ASt.put, ASt.set, ASt.new, Nat.reduceDiv, Nat.reduceAdd, Int.reduceToNat, absV, absC, scalar, alen, acap, conc, flats, live, blkOf, aload, rd, part?, afieldAddr, afield, aindexAddr, cellsOf, afill, places, abuild, optI, asliceV, asliceS, szOk, srcCells, aappend, acopy, astore, amakeSlice, abuildSlice, snapL, mapO, treeL, AVal.tree, AVal.flatT, isFlat, ares, isFz, afroz, afrozB, lookupA, lookupH, tops, if_true, if_false, reduceCtorEq, forall_const, ite_true, ite_false, implies_true, walkS, tabS, Tryz.results138, eq_false c1, eq_false c2, eq_false c3, w1, w2, w3, w4]
  refine callK (dd) (by first | exact .inl rfl | exact .inr rfl) ?_
  simp (config := { maxSteps := 1000000 }) +decide only [NoH, Old, OldL, nilQ, nilA, asgn, nz, RechL, ReY, isNew, stepO, XPost, postN, XOk, updN, updU, isEff, avalue, aeff, ASt.eval, ASt.put, ASt.set, ASt.new, Nat.reduceDiv, Nat.reduceAdd, Int.reduceToNat, absV, absC, scalar, alen, acap, conc, flats, live, blkOf, aload, rd, part?, afieldAddr, afield, aindexAddr, cellsOf, afill, places, abuild, optI, asliceV, asliceS, szOk, srcCells, aappend, acopy, astore, amakeSlice, abuildSlice, snapL, mapO, treeL, AVal.tree, AVal.flatT, isFlat, ares, isFz, afroz, afrozB, lookupA, lookupH, tops, if_true, if_false, reduceCtorEq, forall_const, ite_true, ite_false, implies_true, walkS, tabS, Tryz.results138, w5]
theorem den_mend {O L : List Int} (h : MkOk O L) : Den Tryz.prog 99 [mkV O L] (.i (O.getD (O.length - 1) 0)) := by
  refine den_of_awpG (ghs [] [1]) Tryz.func99 rfl (by kernel_rfl) (Nat.le_of_ble_eq_true rfl) (by simp only [treeL, AVal.tree, treeL_i, treeL_ints, treeL_u8, treeL_append, Bool.and_self, Bool.and_true, Bool.true_and]) (by first | rfl | simp only [treeL, AVal.tree, treeL_i, treeL_ints, treeL_u8, treeL_append, Bool.and_self, Bool.and_true, Bool.true_and]) mixed (by kernel_rfl) fun hl => ?_
  simp only [lensL, lens, lensL_i, lensL_mapC, maxI, and_true, true_and] at hl
  rw [Tryz.ntmps99]
  refine ex_start ?_
  have h2 := h.n2
  have w1 : IntKind.i64.wrap ((O.length : Int) - 1) = ((O.length - 1 : Nat) : Int) := (wrap64 (by omega) (by omega)).trans (by omega)
  have c : O.length - 1 < O.length := by omega
  have cI : ((O.length - 1 : Nat) : Int) < (O.length : Int) := by omega
  simp (config := { maxSteps := 1000000 }) +decide only [NoH, Old, OldL, nilQ, nilA, asgn, nz, RechL, ReY, isNew, stepO, XPost, postN, XOk, updN, updU, isEff, avalue, aeff, ASt.eval, ASt.put, ASt.set, ASt.new, Nat.reduceDiv, Nat.reduceAdd, Int.reduceToNat, absV, absC, scalar, alen, acap, conc, flats, live, blkOf, aload, rd, part?, afieldAddr, afield, aindexAddr, cellsOf, afill, places, abuild, optI, asliceV, asliceS, szOk, srcCells, aappend, acopy, astore, amakeSlice, abuildSlice, snapL, mapO, treeL, AVal.tree, AVal.flatT, isFlat, ares, isFz, afroz, afrozB, lookupA, lookupH, tops, if_true, if_false, reduceCtorEq, forall_const, ite_true, ite_false, implies_true, walkS, tabS, Tryz.results99, w1, c, cI, cellM c]
theorem den_loss {O L : List Int} (h : MkOk O L) (x : Int) (hx : -10000000 ≤ x ∧ x ≤ 10000000) : Den Tryz.prog 97 [mkV O L, .i x] (.i (lossV O L x)) := by
  refine den_of_awpG (ghs [] [2]) Tryz.func97 rfl (by kernel_rfl) (Nat.le_of_ble_eq_true rfl) (by simp only [treeL, AVal.tree, treeL_i, treeL_ints, treeL_u8, treeL_append, Bool.and_self, Bool.and_true, Bool.true_and]) (by first | rfl | simp only [treeL, AVal.tree, treeL_i, treeL_ints, treeL_u8, treeL_append, Bool.and_self, Bool.and_true, Bool.true_and]) mixed (by kernel_rfl) fun hl => ?_
  simp only [lensL, lens, lensL_i, lensL_mapC, maxI, and_true, true_and] at hl
  rw [Tryz.ntmps97]
  refine ex_start ?_
  have h2 := h.n2
  have h12 := h.n12
  have hq := h.eq
  have hq2 : (L.length : Int) = (O.length : Int) := by omega
  simp (config := { maxSteps := 1000000 }) +decide only [NoH, Old, OldL, nilQ, nilA, asgn, nz, RechL, ReY, isNew, stepO, XPost, postN, XOk, updN, updU, isEff, avalue, aeff, ASt.eval, ASt.put, ASt.set, ASt.new, Nat.reduceDiv, Nat.reduceAdd, Int.reduceToNat, absV, absC, scalar, alen, acap, conc, flats, live, blkOf, aload, rd, part?, afieldAddr, afield, aindexAddr, cellsOf, afill, places, abuild, optI, asliceV, asliceS, szOk, srcCells, aappend, acopy, astore, amakeSlice, abuildSlice, snapL, mapO, treeL, AVal.tree, AVal.flatT, isFlat, ares, isFz, afroz, afrozB, lookupA, lookupH, tops, if_true, if_false, reduceCtorEq, forall_const, ite_true, ite_false, implies_true, walkS, tabS, Tryz.results97]
  refine callK (den_abs x (by omega) (by omega)) (by first | exact .inl rfl | exact .inr rfl) ?_
  unfold lossV
  have ha : 0 ≤ ab x := by unfold ab; split <;> omega
  generalize ab x = t at *
  simp (config := { maxSteps := 1000000 }) +decide only [NoH, Old, OldL, nilQ, nilA, asgn, nz, RechL, ReY, isNew, stepO, XPost, postN, XOk, updN, updU, isEff, avalue, aeff, ASt.eval, ASt.put, ASt.set, ASt.new, Nat.reduceDiv, Nat.reduceAdd, Int.reduceToNat, absV, absC, scalar, alen, acap, conc, flats, live, blkOf, aload, rd, part?, afieldAddr, afield, aindexAddr, cellsOf, afill, places, abuild, optI, asliceV, asliceS, szOk, srcCells, aappend, acopy, astore, amakeSlice, abuildSlice, snapL, mapO, treeL, AVal.tree, AVal.flatT, isFlat, ares, isFz, afroz, afrozB, lookupA, lookupH, tops, if_true, if_false, reduceCtorEq, forall_const, ite_true, ite_false, implies_true, walkS, tabS, Tryz.results97]
  refine ex_loop (fun k : {k : Nat // (1 ≤ k ∧ k < O.length) ∧ ∀ j, 1 ≤ j → j < k → O.getD j 0 < t} => mkG (ghs [] [2]) [(1, .i t), (2, mkP O L), (5, .i k.1)] [] 0 49) (fun k => O.length - k.1) ⟨1, ⟨by omega, by omega⟩, fun j h1 h2 => by omega⟩ ?_ ?_
  · refine weak_mk rfl (by first | exact Nat.le_refl _ | (simp only [mk_gen]; omega)) ?_ ?_ <;> simp +decide only [w_lookup_nil, w_lookup_cons, ch_ch, ch_lit, lit_ch, wkT, wkH, wkB, WVL, WV_refl', Int.natCast_zero, Int.natCast_add, Int.natCast_one, Nat.sub_self, Nat.sub_zero, List.replicate_zero, List.take_zero, List.nil_append, List.append_nil, fillC_zero, Nat.reduceDiv, Nat.reduceAdd, upd_bk, bk_at, getB_zero, getB_succ, modB_zero, modB_succ, rows_lit, repB_zero, repB_succ, List.length_cons, List.length_nil, upd_upd_same, upd_apply, mk_tmp, mk_heap, mk_gen, lookupA, lookupH, List.getD_cons_zero, List.getD_cons_succ, init_two, tops, Bool.true_and, and_self, and_true, true_and, true_or, if_true, if_false, ite_true, ite_false, reduceCtorEq, reduceIte]
  rintro ⟨k, ⟨k1, k2⟩, k3⟩
  have k1' : 1 ≤ k := k1
  have k2' : k < O.length := k2
  have k3' : ∀ j, 1 ≤ j → j < k → O.getD j 0 < t := k3
  have k2I : (k : Int) < (O.length : Int) := by omega
  have w1 : IntKind.i64.wrap ((O.length : Int) - 1) = ((O.length - 1 : Nat) : Int) := (wrap64 (by omega) (by omega)).trans (by omega)
  have wk : IntKind.i64.wrap ((k : Int) + 1) = ((k + 1 : Nat) : Int) := wrap64 (by omega) (by omega)
  have wm : IntKind.i64.wrap ((k : Int) - 1) = ((k - 1 : Nat) : Int) := (wrap64 (by omega) (by omega)).trans (by omega)
  have ck := cellM (L := O) k2'
  have cl := cellM (L := L) (j := k) (by omega)
  have ck1 := cellM (L := O) (j := k - 1) (by omega)
  have cl1 := cellM (L := L) (j := k - 1) (by omega)
  have m1 : k - 1 < O.length := by omega
  have m1I : ((k - 1 : Nat) : Int) < (O.length : Int) := by omega
  have fin : (k = O.length - 1 ∨ t ≤ O.getD k 0) → Den Tryz.prog 138 [.i (O.getD (k - 1) 0), .i (L.getD (k - 1) 0), .i (O.getD k 0), .i (L.getD k 0), .i t] (.i (pcV O L (kM O t (O.length - 2) 1) t)) := fun hh => by
    rw [kM_unique (k := k) ⟨k1', by omega⟩ (by rcases hh with hh | hh; exact .inl (by omega); exact .inr hh) k3']
    exact den_blendM _ _ _ _ _ ⟨(h.oAt m1).1, h.inc k (by omega) k2', (h.oAt k2').2⟩ ⟨(h.lAt m1).1, h.srt k (by omega) k2', (h.lAt k2').2⟩
  by_cases c1 : k < O.length - 1
  · have c1I : (k : Int) < ((O.length - 1 : Nat) : Int) := by omega
    by_cases c2 : O.getD k 0 < t
    · simp (config := { maxSteps := 1000000 }) +decide only [NoH, Old, OldL, nilQ, nilA, asgn, nz, RechL, ReY, isNew, stepO, XPost, postN, XOk, updN, updU, isEff, avalue, aeff, ASt.eval, ASt.put, ASt.set, ASt.new, Nat.reduceDiv, Nat.reduceAdd, Int.reduceToNat, absV, absC, scalar, alen, acap, conc, flats, live, blkOf, aload, rd, part?, afieldAddr, afield, aindexAddr, cellsOf, afill, places, abuild, optI, asliceV, asliceS, szOk, srcCells, aappend, acopy, astore, amakeSlice, abuildSlice, snapL, mapO, treeL, AVal.tree, AVal.flatT, isFlat, ares, isFz, afroz, afrozB, lookupA, lookupH, tops, if_true, if_false, reduceCtorEq, forall_const, ite_true, ite_false, implies_true, walkS, tabS, Tryz.results97, w1, eq_true c1, eq_true c1I, k2', k2I, ck, eq_true c2, wk]
      refine ⟨⟨k + 1, ⟨by omega, by omega⟩, fun j h1 h2 => ?_⟩, ?_, by show O.length - (k + 1) < O.length - k; omega⟩
      · by_cases e : j = k
        · subst e; exact c2
        · exact k3' j h1 (by omega)
      · refine weak_mk rfl (by first | exact Nat.le_refl _ | (simp only [mk_gen]; omega)) ?_ ?_ <;> simp +decide only [w_lookup_nil, w_lookup_cons, ch_ch, ch_lit, lit_ch, wkT, wkH, wkB, WVL, WV_refl', Int.natCast_zero, Int.natCast_add, Int.natCast_one, Nat.sub_self, Nat.sub_zero, List.replicate_zero, List.take_zero, List.nil_append, List.append_nil, fillC_zero, Nat.reduceDiv, Nat.reduceAdd, upd_bk, bk_at, getB_zero, getB_succ, modB_zero, modB_succ, rows_lit, repB_zero, repB_succ, List.length_cons, List.length_nil, upd_upd_same, upd_apply, mk_tmp, mk_heap, mk_gen, lookupA, lookupH, List.getD_cons_zero, List.getD_cons_succ, init_two, tops, Bool.true_and, and_self, and_true, true_and, true_or, if_true, if_false, ite_true, ite_false, reduceCtorEq, reduceIte]
    · simp (config := { maxSteps := 1000000 }) +decide only [NoH, Old, OldL, nilQ, nilA, asgn, nz, RechL, ReY, isNew, stepO, XPost, postN, XOk, updN, updU, isEff, avalue, aeff, ASt.eval, ASt.put, ASt.set, ASt.new, Nat.reduceDiv, Nat.reduceAdd, Int.reduceToNat, absV, absC, scalar, alen, acap, conc, flats, live, blkOf, aload, rd, part?, afieldAddr, afield, aindexAddr, cellsOf, afill, places, abuild, optI, asliceV, asliceS, szOk, srcCells, aappend, acopy, astore, amakeSlice, abuildSlice, snapL, mapO, treeL, AVal.tree, AVal.flatT, isFlat, ares, isFz, afroz, afrozB, lookupA, lookupH, tops, if_true, if_false, reduceCtorEq, forall_const, ite_true, ite_false, implies_true, walkS, tabS, Tryz.results97, w1, eq_true c1, eq_true c1I, k2', k2I, ck, eq_false c2, wk, wm, m1, m1I, ck1, cl, cl1, hq, hq2]
      refine callK (fin (.inr (by omega))) (by first | exact .inl rfl | exact .inr rfl) ?_
      simp (config := { maxSteps := 1000000 }) +decide only [NoH, Old, OldL, nilQ, nilA, asgn, nz, RechL, ReY, isNew, stepO, XPost, postN, XOk, updN, updU, isEff, avalue, aeff, ASt.eval, ASt.put, ASt.set, ASt.new, Nat.reduceDiv, Nat.reduceAdd, Int.reduceToNat, absV, absC, scalar, alen, acap, conc, flats, live, blkOf, aload, rd, part?, afieldAddr, afield, aindexAddr, cellsOf, afill, places, abuild, optI, asliceV, asliceS, szOk, srcCells, aappend, acopy, astore, amakeSlice, abuildSlice, snapL, mapO, treeL, AVal.tree, AVal.flatT, isFlat, ares, isFz, afroz, afrozB, lookupA, lookupH, tops, if_true, if_false, reduceCtorEq, forall_const, ite_true, ite_false, implies_true, walkS, tabS, Tryz.results97]
  · have c1I : ¬ (k : Int) < ((O.length - 1 : Nat) : Int) := by omega
    simp (config := { maxSteps := 1000000 }) +decide only [NoH, Old, OldL, nilQ, nilA, asgn, nz, RechL, ReY, isNew, stepO, XPost, postN, XOk, updN, updU, isEff, avalue, aeff, ASt.eval, ASt.put, ASt.set, ASt.new, Nat.reduceDiv, Nat.reduceAdd, Int.reduceToNat, absV, absC, scalar, alen, acap, conc, flats, live, blkOf, aload, rd, part?, afieldAddr, afield, aindexAddr, cellsOf, afill, places, abuild, optI, asliceV, asliceS, szOk, srcCells, aappend, acopy, astore, amakeSlice, abuildSlice, snapL, mapO, treeL, AVal.tree, AVal.flatT, isFlat, ares, isFz, afroz, afrozB, lookupA, lookupH, tops, if_true, if_false, reduceCtorEq, forall_const, ite_true, ite_false, implies_true, walkS, tabS, Tryz.results97, w1, eq_false c1, eq_false c1I, k2', k2I, ck, wk, wm, m1, m1I, ck1, cl, cl1, hq, hq2]
    refine callK (fin (.inl (by omega))) (by first | exact .inl rfl | exact .inr rfl) ?_
    simp (config := { maxSteps := 1000000 }) +decide only [NoH, Old, OldL, nilQ, nilA, asgn, nz, RechL, ReY, isNew, stepO, XPost, postN, XOk, updN, updU, isEff, avalue, aeff, ASt.eval, ASt.put, ASt.set, ASt.new, Nat.reduceDiv, Nat.reduceAdd, Int.reduceToNat, absV, absC, scalar, alen, acap, conc, flats, live, blkOf, aload, rd, part?, afieldAddr, afield, aindexAddr, cellsOf, afill, places, abuild, optI, asliceV, asliceS, szOk, srcCells, aappend, acopy, astore, amakeSlice, abuildSlice, snapL, mapO, treeL, AVal.tree, AVal.flatT, isFlat, ares, isFz, afroz, afrozB, lookupA, lookupH, tops, if_true, if_false, reduceCtorEq, forall_const, ite_true, ite_false, implies_true, walkS, tabS, Tryz.results97]
end Go.Proofs.YtiaemddmkmfijaaGreatDoor
