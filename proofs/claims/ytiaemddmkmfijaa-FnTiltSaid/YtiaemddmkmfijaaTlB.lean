/-
  OWN WORK: envelopes of antennas.
-/
import Derived.Test.YtiaemddmkmfijaaTlA
namespace Go.Proofs.Ytiaemddmkmfijaa
open Go Go.Own Go.Proofs
set_option maxHeartbeats 4000000
set_option maxRecDepth 20000
set_option linter.unusedSimpArgs false
set_option linter.unusedVariables false
theorem sem_min3 (ats : Array TypeId) (t : TypeId) (a b c : Int) : semS Try.prog (Builtin.min_ ats t [.int .i64 a, .int .i64 b, .int .i64 c].toArray) = some (.flat (.int .i64 (min (min a b) c))) := by
  have e : semS Try.prog (Builtin.min_ ats t [.int .i64 a, .int .i64 b, .int .i64 c].toArray) = some (.flat (.int .i64 (if c < (if b < a then b else a) then c else (if b < a then b else a)))) := by
    by_cases h : b < a <;> by_cases h2 : c < (if b < a then b else a) <;> rfl
  rw [e]
  congr 3
  split <;> split <;> omega
/-- the lesser loss, raised -/
def lsV (a b : An) (x y : Int) : Int := min (min (max a.g b.g - a.g + x) (max a.g b.g - b.g + y)) 60000
theorem lsV_in {a b : An} {x y : Int} (hx : LsOk x) (hy : LsOk y) : LsOk (lsV a b x y) := by
  unfold LsOk at *
  unfold lsV
  omega
theorem lsV_le {a b : An} (x y : Int) : lsV a b x y ≤ max a.g b.g - a.g + x ∧ lsV a b x y ≤ max a.g b.g - b.g + y := by
  unfold lsV
  omega
theorem lsV_0 (a b : An) : lsV a b 0 0 = 0 := by
  unfold lsV
  omega
theorem den_env1 {a b : An} (ha : AnOk a) (hb : AnOk b) (nm : List UInt8) (H V : List Int) {x y : Int} (hx : LsOk x) (hy : LsOk y) : Den Try.prog 20 [.i x, .i y, .iptr [.t nm, .i (max a.g b.g), ints H, ints V] 0, anP a, anP b] (.i (lsV a b x y)) := by
  have g1 := ha.g
  have g2 := hb.g
  obtain ⟨x1, x2⟩ := hx
  obtain ⟨y1, y2⟩ := hy
  have w1 : IntKind.i64.wrap (max a.g b.g - a.g) = max a.g b.g - a.g := wrap64 (by omega) (by omega)
  have w2 : IntKind.i64.wrap (max a.g b.g - b.g) = max a.g b.g - b.g := wrap64 (by omega) (by omega)
  have w3 : IntKind.i64.wrap (max a.g b.g - a.g + x) = max a.g b.g - a.g + x := wrap64 (by omega) (by omega)
  have w4 : IntKind.i64.wrap (max a.g b.g - b.g + y) = max a.g b.g - b.g + y := wrap64 (by omega) (by omega)
  have e : min (min (max a.g b.g - a.g + x) (max a.g b.g - b.g + y)) 60000 = lsV a b x y := rfl
  refine den_of_awpG (ghs [] []) Try.func20 rfl (by kernel_rfl) (Nat.le_of_ble_eq_true rfl) (by simp only [treeL, AVal.tree, treeL_i, treeL_ints, treeL_u8, treeL_append, Bool.and_self, Bool.and_true, Bool.true_and]) (by first | rfl | simp only [treeL, AVal.tree, treeL_i, treeL_ints, treeL_u8, treeL_append, Bool.and_self, Bool.and_true, Bool.true_and]) mixed (by kernel_rfl) fun hl => ?_
  simp only [lensL, lens, lensL_i, lensL_mapC, maxI, and_true, true_and] at hl
  rw [Try.ntmps20]
  refine ex_start ?_
  simp (config := { maxSteps := 1000000 }) +decide only [NoH, Old, OldL, nilQ, nilA, asgn, nz, RechL, ReY, isNew, stepO, XPost, postN, XOk, updN, updU, isEff, avalue, aeff, ASt.eval, ASt.put, ASt.set, ASt.new, Nat.reduceDiv, Nat.reduceAdd, Int.reduceToNat, absV, absC, scalar, alen, acap, conc, flats, live, blkOf, aload, rd, part?, afieldAddr, afield, aindexAddr, cellsOf, afill, places, abuild, optI, asliceV, asliceS, szOk, srcCells, aappend, acopy, astore, amakeSlice, abuildSlice, snapL, mapO, treeL, AVal.tree, AVal.flatT, isFlat, ares, isFz, afroz, afrozB, lookupA, lookupH, tops, if_true, if_false, reduceCtorEq, forall_const, ite_true, ite_false, implies_true, walkS, tabS, Try.results20, w1, w2, w3, w4, sem_min3, e]
/-- the lesser losses of two lists -/
def lsL (a b : An) (X Y : List Int) (n : Nat) : List Int := (List.range n).map fun i => lsV a b (X.getD i 0) (Y.getD i 0)
theorem lsL_len (a b : An) (X Y : List Int) (n : Nat) : (lsL a b X Y n).length = n := by simp [lsL]
theorem lsL_at (a b : An) (X Y : List Int) {n i : Nat} (h : i < n) : (lsL a b X Y n).getD i 0 = lsV a b (X.getD i 0) (Y.getD i 0) := by simp [lsL, List.getD, h]
theorem lsL_snoc (a b : An) (X Y : List Int) (n : Nat) : lsL a b X Y n ++ [lsV a b (X.getD n 0) (Y.getD n 0)] = lsL a b X Y (n + 1) := by simp [lsL, List.range_succ]
theorem lsL_in {a b : An} {X Y : List Int} {n : Nat} (hX : ∀ x ∈ X, LsOk x) (hY : ∀ x ∈ Y, LsOk x) (lX : n ≤ X.length) (lY : n ≤ Y.length) : ∀ x ∈ lsL a b X Y n, LsOk x := fun x hx => by
  obtain ⟨i, hi, rfl⟩ := List.mem_map.1 hx
  have h := List.mem_range.1 hi
  exact lsV_in (hX _ (gdM (by omega))) (hY _ (gdM (by omega)))
/-- the envelope -/
def evA (a b : An) (nm : List UInt8) : An := ⟨nm, max a.g b.g, lsL a b a.H b.H 36, lsL a b a.V b.V 19⟩
theorem evA_ok {a b : An} {nm : List UInt8} (ha : AnOk a) (hb : AnOk b) (hn : NmOk nm) : AnOk (evA a b nm) := by
  have a1 := ha.lH
  have a2 := ha.lV
  have b1 := hb.lH
  have b2 := hb.lV
  refine ⟨hn, ?_, lsL_len .., lsL_len .., lsL_in ha.H hb.H (by omega) (by omega), lsL_in ha.V hb.V (by omega) (by omega), ?_, ?_⟩
  · have g1 := ha.g
    have g2 := hb.g
    show -60000 ≤ max a.g b.g ∧ max a.g b.g ≤ 60000
    omega
  · show (lsL a b a.H b.H 36).getD 0 0 = 0
    rw [lsL_at _ _ _ _ (by omega), ha.H0, hb.H0, lsV_0]
  · show (lsL a b a.V b.V 19).getD 9 0 = 0
    rw [lsL_at _ _ _ _ (by omega), ha.V9, hb.V9, lsV_0]
theorem hoV_ten {H : List Int} {k : Nat} (hk : k < 36) : hoV H (10 * (k : Int)) = H.getD k 0 := by
  unfold hoV
  rw [show (10 * (k : Int)) % 360 % 10 = 0 by omega, mxV_0, show ((10 * (k : Int)) % 360 / 10).toNat = k by omega]
theorem ev_gain (a b : An) (nm : List UInt8) {k : Nat} (hk : k < 36) : a.g - hoV a.H (10 * (k : Int)) ≤ (evA a b nm).g - hoV (evA a b nm).H (10 * (k : Int)) ∧ b.g - hoV b.H (10 * (k : Int)) ≤ (evA a b nm).g - hoV (evA a b nm).H (10 * (k : Int)) := by
  rw [hoV_ten hk, hoV_ten hk, hoV_ten hk]
  show _ ≤ max a.g b.g - (lsL a b a.H b.H 36).getD k 0 ∧ _ ≤ max a.g b.g - (lsL a b a.H b.H 36).getD k 0
  rw [lsL_at _ _ _ _ hk]
  have := lsV_le (a := a) (b := b) (a.H.getD k 0) (b.H.getD k 0)
  omega
theorem den_EnvNo (a b : An) (hA : AnB a) (hB : AnB b) (nm : List UInt8) (hn : nm.length ≤ 1000) (h : ¬ (AnOk a ∧ AnOk b ∧ NmOk nm)) : ∃ m : AVal, m = .agg [.t [], .i 0, .lst [] 0, .lst [] 0] ∧ Den Try.prog 9 [anV a, anV b, .t nm] (.tup [m, .i 1]) := by
  refine ⟨_, rfl, ?_⟩
  refine den_of_awpG (ghs [] [3, 4]) Try.func9 rfl (by kernel_rfl) (Nat.le_of_ble_eq_true rfl) (by simp only [treeL, AVal.tree, treeL_i, treeL_ints, treeL_u8, treeL_append, Bool.and_self, Bool.and_true, Bool.true_and]) (by first | rfl | simp only [treeL, AVal.tree, treeL_i, treeL_ints, treeL_u8, treeL_append, Bool.and_self, Bool.and_true, Bool.true_and]) mixed (by kernel_rfl) fun hl => ?_
  simp only [lensL, lens, lensL_i, lensL_mapC, maxI, and_true, true_and] at hl
  rw [Try.ntmps9]
  refine ex_start ?_
  simp (config := { maxSteps := 1000000 }) +decide only [NoH, Old, OldL, nilQ, nilA, asgn, nz, RechL, ReY, isNew, stepO, XPost, postN, XOk, updN, updU, isEff, avalue, aeff, ASt.eval, ASt.put, ASt.set, ASt.new, Nat.reduceDiv, Nat.reduceAdd, Int.reduceToNat, absV, absC, scalar, alen, acap, conc, flats, live, blkOf, aload, rd, part?, afieldAddr, afield, aindexAddr, cellsOf, afill, places, abuild, optI, asliceV, asliceS, szOk, srcCells, aappend, acopy, astore, amakeSlice, abuildSlice, snapL, mapO, treeL, AVal.tree, AVal.flatT, isFlat, ares, isFz, afroz, afrozB, lookupA, lookupH, tops, if_true, if_false, reduceCtorEq, forall_const, ite_true, ite_false, implies_true, walkS, tabS, Try.results9]
  refine callK (den_ValidAntenna a hA) (by first | exact .inl rfl | exact .inr rfl) ?_
  by_cases h1 : AnOk a
  case neg =>
    simp (config := { maxSteps := 1000000 }) +decide only [NoH, Old, OldL, nilQ, nilA, asgn, nz, RechL, ReY, isNew, stepO, XPost, postN, XOk, updN, updU, isEff, avalue, aeff, ASt.eval, ASt.put, ASt.set, ASt.new, Nat.reduceDiv, Nat.reduceAdd, Int.reduceToNat, absV, absC, scalar, alen, acap, conc, flats, live, blkOf, aload, rd, part?, afieldAddr, afield, aindexAddr, cellsOf, afill, places, abuild, optI, asliceV, asliceS, szOk, srcCells, aappend, acopy, astore, amakeSlice, abuildSlice, snapL, mapO, treeL, AVal.tree, AVal.flatT, isFlat, ares, isFz, afroz, afrozB, lookupA, lookupH, tops, if_true, if_false, reduceCtorEq, forall_const, ite_true, ite_false, implies_true, walkS, tabS, Try.results9, eq_false h1]
    rfl
  simp (config := { maxSteps := 1000000 }) +decide only [NoH, Old, OldL, nilQ, nilA, asgn, nz, RechL, ReY, isNew, stepO, XPost, postN, XOk, updN, updU, isEff, avalue, aeff, ASt.eval, ASt.put, ASt.set, ASt.new, Nat.reduceDiv, Nat.reduceAdd, Int.reduceToNat, absV, absC, scalar, alen, acap, conc, flats, live, blkOf, aload, rd, part?, afieldAddr, afield, aindexAddr, cellsOf, afill, places, abuild, optI, asliceV, asliceS, szOk, srcCells, aappend, acopy, astore, amakeSlice, abuildSlice, snapL, mapO, treeL, AVal.tree, AVal.flatT, isFlat, ares, isFz, afroz, afrozB, lookupA, lookupH, tops, if_true, if_false, reduceCtorEq, forall_const, ite_true, ite_false, implies_true, walkS, tabS, Try.results9, eq_true h1]
  refine callK (den_ValidAntenna b hB) (by first | exact .inl rfl | exact .inr rfl) ?_
  by_cases h2 : AnOk b
  case neg =>
    simp (config := { maxSteps := 1000000 }) +decide only [NoH, Old, OldL, nilQ, nilA, asgn, nz, RechL, ReY, isNew, stepO, XPost, postN, XOk, updN, updU, isEff, avalue, aeff, ASt.eval, ASt.put, ASt.set, ASt.new, Nat.reduceDiv, Nat.reduceAdd, Int.reduceToNat, absV, absC, scalar, alen, acap, conc, flats, live, blkOf, aload, rd, part?, afieldAddr, afield, aindexAddr, cellsOf, afill, places, abuild, optI, asliceV, asliceS, szOk, srcCells, aappend, acopy, astore, amakeSlice, abuildSlice, snapL, mapO, treeL, AVal.tree, AVal.flatT, isFlat, ares, isFz, afroz, afrozB, lookupA, lookupH, tops, if_true, if_false, reduceCtorEq, forall_const, ite_true, ite_false, implies_true, walkS, tabS, Try.results9, eq_false h2]
    rfl
  simp (config := { maxSteps := 1000000 }) +decide only [NoH, Old, OldL, nilQ, nilA, asgn, nz, RechL, ReY, isNew, stepO, XPost, postN, XOk, updN, updU, isEff, avalue, aeff, ASt.eval, ASt.put, ASt.set, ASt.new, Nat.reduceDiv, Nat.reduceAdd, Int.reduceToNat, absV, absC, scalar, alen, acap, conc, flats, live, blkOf, aload, rd, part?, afieldAddr, afield, aindexAddr, cellsOf, afill, places, abuild, optI, asliceV, asliceS, szOk, srcCells, aappend, acopy, astore, amakeSlice, abuildSlice, snapL, mapO, treeL, AVal.tree, AVal.flatT, isFlat, ares, isFz, afroz, afrozB, lookupA, lookupH, tops, if_true, if_false, reduceCtorEq, forall_const, ite_true, ite_false, implies_true, walkS, tabS, Try.results9, eq_true h2]
  refine callK (den_IsName nm hn) (by first | exact .inl rfl | exact .inr rfl) ?_
  have h3 : ¬ NmOk nm := fun k => h ⟨h1, h2, k⟩
  simp (config := { maxSteps := 1000000 }) +decide only [NoH, Old, OldL, nilQ, nilA, asgn, nz, RechL, ReY, isNew, stepO, XPost, postN, XOk, updN, updU, isEff, avalue, aeff, ASt.eval, ASt.put, ASt.set, ASt.new, Nat.reduceDiv, Nat.reduceAdd, Int.reduceToNat, absV, absC, scalar, alen, acap, conc, flats, live, blkOf, aload, rd, part?, afieldAddr, afield, aindexAddr, cellsOf, afill, places, abuild, optI, asliceV, asliceS, szOk, srcCells, aappend, acopy, astore, amakeSlice, abuildSlice, snapL, mapO, treeL, AVal.tree, AVal.flatT, isFlat, ares, isFz, afroz, afrozB, lookupA, lookupH, tops, if_true, if_false, reduceCtorEq, forall_const, ite_true, ite_false, implies_true, walkS, tabS, Try.results9, eq_false h3]
  rfl
theorem den_Envelope {a b : An} {nm : List UInt8} (h1 : AnOk a) (h2 : AnOk b) (h3 : NmOk nm) : Den Try.prog 9 [anV a, anV b, .t nm] (.tup [anV (evA a b nm), .i 0]) := by
  have l1 := h1.lH
  have l2 := h1.lV
  have l3 := h2.lH
  have l4 := h2.lV
  have l5 := h3.1
  have ev : anV (evA a b nm) = .agg [.t nm, .i (max a.g b.g), .lst (mapC AVal.i (lsL a b a.H b.H 36)) 36, .lst (mapC AVal.i (lsL a b a.V b.V 19)) 19] := by
    show AVal.agg [_, _, .lst _ (lsL a b a.H b.H 36).length, .lst _ (lsL a b a.V b.V 19).length] = _
    rw [lsL_len, lsL_len]
    rfl
  rw [ev]
  have q1 : ∀ c : Int, (List.replicate 1 (0 : Int)).set 0 c = [c] := fun _ => rfl
  refine den_of_awpG (ghs [] [3, 4, 54, 76]) Try.func9 rfl (by kernel_rfl) (Nat.le_of_ble_eq_true rfl) (by simp only [treeL, AVal.tree, treeL_i, treeL_ints, treeL_u8, treeL_append, Bool.and_self, Bool.and_true, Bool.true_and]) (by first | rfl | simp only [treeL, AVal.tree, treeL_i, treeL_ints, treeL_u8, treeL_append, Bool.and_self, Bool.and_true, Bool.true_and]) mixed (by kernel_rfl) fun hl => ?_
  simp only [lensL, lens, lensL_i, lensL_mapC, maxI, and_true, true_and] at hl
  rw [Try.ntmps9]
  refine ex_start ?_
  simp (config := { maxSteps := 1000000 }) +decide only [NoH, Old, OldL, nilQ, nilA, asgn, nz, RechL, ReY, isNew, stepO, XPost, postN, XOk, updN, updU, isEff, avalue, aeff, ASt.eval, ASt.put, ASt.set, ASt.new, Nat.reduceDiv, Nat.reduceAdd, Int.reduceToNat, absV, absC, scalar, alen, acap, conc, flats, live, blkOf, aload, rd, part?, afieldAddr, afield, aindexAddr, cellsOf, afill, places, abuild, optI, asliceV, asliceS, szOk, srcCells, aappend, acopy, astore, amakeSlice, abuildSlice, snapL, mapO, treeL, AVal.tree, AVal.flatT, isFlat, ares, isFz, afroz, afrozB, lookupA, lookupH, tops, if_true, if_false, reduceCtorEq, forall_const, ite_true, ite_false, implies_true, walkS, tabS, Try.results9]
  refine callK (den_ValidAntenna a h1.b) (by first | exact .inl rfl | exact .inr rfl) ?_
  simp (config := { maxSteps := 1000000 }) +decide only [NoH, Old, OldL, nilQ, nilA, asgn, nz, RechL, ReY, isNew, stepO, XPost, postN, XOk, updN, updU, isEff, avalue, aeff, ASt.eval, ASt.put, ASt.set, ASt.new, Nat.reduceDiv, Nat.reduceAdd, Int.reduceToNat, absV, absC, scalar, alen, acap, conc, flats, live, blkOf, aload, rd, part?, afieldAddr, afield, aindexAddr, cellsOf, afill, places, abuild, optI, asliceV, asliceS, szOk, srcCells, aappend, acopy, astore, amakeSlice, abuildSlice, snapL, mapO, treeL, AVal.tree, AVal.flatT, isFlat, ares, isFz, afroz, afrozB, lookupA, lookupH, tops, if_true, if_false, reduceCtorEq, forall_const, ite_true, ite_false, implies_true, walkS, tabS, Try.results9, eq_true h1]
  refine callK (den_ValidAntenna b h2.b) (by first | exact .inl rfl | exact .inr rfl) ?_
  simp (config := { maxSteps := 1000000 }) +decide only [NoH, Old, OldL, nilQ, nilA, asgn, nz, RechL, ReY, isNew, stepO, XPost, postN, XOk, updN, updU, isEff, avalue, aeff, ASt.eval, ASt.put, ASt.set, ASt.new, Nat.reduceDiv, Nat.reduceAdd, Int.reduceToNat, absV, absC, scalar, alen, acap, conc, flats, live, blkOf, aload, rd, part?, afieldAddr, afield, aindexAddr, cellsOf, afill, places, abuild, optI, asliceV, asliceS, szOk, srcCells, aappend, acopy, astore, amakeSlice, abuildSlice, snapL, mapO, treeL, AVal.tree, AVal.flatT, isFlat, ares, isFz, afroz, afrozB, lookupA, lookupH, tops, if_true, if_false, reduceCtorEq, forall_const, ite_true, ite_false, implies_true, walkS, tabS, Try.results9, eq_true h2]
  refine callK (den_IsName nm (by omega)) (by first | exact .inl rfl | exact .inr rfl) ?_
  simp (config := { maxSteps := 1000000 }) +decide only [NoH, Old, OldL, nilQ, nilA, asgn, nz, RechL, ReY, isNew, stepO, XPost, postN, XOk, updN, updU, isEff, avalue, aeff, ASt.eval, ASt.put, ASt.set, ASt.new, Nat.reduceDiv, Nat.reduceAdd, Int.reduceToNat, absV, absC, scalar, alen, acap, conc, flats, live, blkOf, aload, rd, part?, afieldAddr, afield, aindexAddr, cellsOf, afill, places, abuild, optI, asliceV, asliceS, szOk, srcCells, aappend, acopy, astore, amakeSlice, abuildSlice, snapL, mapO, treeL, AVal.tree, AVal.flatT, isFlat, ares, isFz, afroz, afrozB, lookupA, lookupH, tops, if_true, if_false, reduceCtorEq, forall_const, ite_true, ite_false, implies_true, walkS, tabS, Try.results9, eq_true h3, sem_mx]
  refine ex_loop (fun p : {p : Nat × Nat × Nat // p.1 ≤ 36} => mkG (ghs [] [3, 4, 54, 76]) [(3, anP a), (4, anP b), (6, .ptr 6 0 0), (8, .ptr 8 1 0), (9, .clo 20 [.ptr 8 1 0, anP a, anP b]), (37, ints a.H), (38, .i 36), (39, .i p.1.1)] [(6, ⟨0, 4, [.flat (.string ByteArray.empty), .i 0, .nl, .nl]⟩), (8, ⟨1, 4, [.t nm, .i (max a.g b.g), .own 55 p.1.2.1 0 p.1.1, .nl]⟩), (55, ⟨p.1.2.1, 1, mapC AVal.i (lsL a b a.H b.H p.1.1)⟩)] p.1.2.2 81) (fun p => 36 - p.1.1) ⟨(0, 2, 20), Nat.zero_le _⟩ ?_ ?_
  · have e0 : lsL a b a.H b.H 0 = [] := rfl
    have e36 : (a.H.length : Int) = 36 := by omega
    refine weak_mk rfl (by first | exact Nat.le_refl _ | (simp only [mk_gen]; omega)) ?_ ?_ <;> simp +decide only [w_lookup_nil, w_lookup_cons, ch_ch, ch_lit, lit_ch, wkT, wkH, wkB, WVL, WV_refl', Int.natCast_zero, Int.natCast_add, Int.natCast_one, Nat.sub_self, Nat.sub_zero, List.replicate_zero, List.take_zero, List.nil_append, List.append_nil, fillC_zero, Nat.reduceDiv, Nat.reduceAdd, upd_bk, bk_at, getB_zero, getB_succ, modB_zero, modB_succ, rows_lit, repB_zero, repB_succ, List.length_cons, List.length_nil, upd_upd_same, upd_apply, mk_tmp, mk_heap, mk_gen, lookupA, lookupH, List.getD_cons_zero, List.getD_cons_succ, init_two, tops, Bool.true_and, and_self, and_true, true_and, true_or, if_true, if_false, ite_true, ite_false, reduceCtorEq, reduceIte, e0, mapC_nil, e36]
    exact .inr (WV_nl rfl rfl rfl rfl)
  rintro ⟨⟨k, g1, G⟩, k1⟩
  have k1' : k ≤ 36 := k1
  have lk := lsL_len a b a.H b.H k
  have tk : (lsL a b a.H b.H k).take k = lsL a b a.H b.H k := List.take_of_length_le (by omega)
  by_cases hlt : k < 36
  · have hltI : (k : Int) < 36 := by omega
    have wk : IntKind.i64.wrap ((k : Int) + 1) = ((k + 1 : Nat) : Int) := wrap64 (by omega) (by omega)
    have kA : k < a.H.length := by omega
    have kB : k < b.H.length := by omega
    have kAI : (k : Int) < (a.H.length : Int) := by omega
    have kBI : (k : Int) < (b.H.length : Int) := by omega
    have cA := cellA kA
    have cB := cellA kB
    have dE0 := den_env1 h1 h2 nm (lsL a b a.H b.H k) [] (h1.H _ (gdM kA)) (h2.H _ (gdM kB))
    have dE : Den Try.prog 20 [.i (a.H.getD k 0), .i (b.H.getD k 0), .iptr [.t nm, .i (max a.g b.g), .lst (mapC AVal.i (lsL a b a.H b.H k)) k, .lst [] 0] 0, anP a, anP b] (.i (lsV a b (a.H.getD k 0) (b.H.getD k 0))) := by
      have e : ints (lsL a b a.H b.H k) = .lst (mapC AVal.i (lsL a b a.H b.H k)) k := by
        show AVal.lst _ _ = _
        rw [lk]
      rw [← e]
      exact dE0
    have sn := lsL_snoc a b a.H b.H k
    have sm : mapC AVal.i (lsL a b a.H b.H k) ++ [AVal.i (lsV a b (a.H.getD k 0) (b.H.getD k 0))] = mapC AVal.i (lsL a b a.H b.H (k + 1)) := by rw [← sn]; simp [mapC]
    have h8 : (k + 1) * 8 ≤ 140737488355328 := by omega
    simp (config := { maxSteps := 1000000 }) +decide only [NoH, Old, OldL, nilQ, nilA, asgn, nz, RechL, ReY, isNew, stepO, XPost, postN, XOk, updN, updU, isEff, avalue, aeff, ASt.eval, ASt.put, ASt.set, ASt.new, Nat.reduceDiv, Nat.reduceAdd, Int.reduceToNat, absV, absC, scalar, alen, acap, conc, flats, live, blkOf, aload, rd, part?, afieldAddr, afield, aindexAddr, cellsOf, afill, places, abuild, optI, asliceV, asliceS, szOk, srcCells, aappend, acopy, astore, amakeSlice, abuildSlice, snapL, mapO, treeL, AVal.tree, AVal.flatT, isFlat, ares, isFz, afroz, afrozB, lookupA, lookupH, tops, if_true, if_false, reduceCtorEq, forall_const, ite_true, ite_false, implies_true, walkS, tabS, Try.results9, eq_true hltI, kA, kB, kAI, kBI, cA, cB, lk, Nat.le_refl, tk, treeL_i]
    refine callK dE (.inr rfl) ?_
    simp (config := { maxSteps := 1000000 }) +decide only [NoH, Old, OldL, nilQ, nilA, asgn, nz, RechL, ReY, isNew, stepO, XPost, postN, XOk, updN, updU, isEff, avalue, aeff, ASt.eval, ASt.put, ASt.set, ASt.new, Nat.reduceDiv, Nat.reduceAdd, Int.reduceToNat, absV, absC, scalar, alen, acap, conc, flats, live, blkOf, aload, rd, part?, afieldAddr, afield, aindexAddr, cellsOf, afill, places, abuild, optI, asliceV, asliceS, szOk, srcCells, aappend, acopy, astore, amakeSlice, abuildSlice, snapL, mapO, treeL, AVal.tree, AVal.flatT, isFlat, ares, isFz, afroz, afrozB, lookupA, lookupH, tops, if_true, if_false, reduceCtorEq, forall_const, ite_true, ite_false, implies_true, walkS, tabS, Try.results9, wk, lk, tk, sm, h8, q1, List.replicate_succ, List.flatten_cons, List.flatten_nil]
    refine ⟨⟨(k + 1, G, G + 20), hlt⟩, ?_, by show 36 - (k + 1) < 36 - k; omega⟩
    refine weak_mk rfl (by first | exact Nat.le_refl _ | (simp only [mk_gen]; omega)) ?_ ?_ <;> simp +decide only [w_lookup_nil, w_lookup_cons, ch_ch, ch_lit, lit_ch, wkT, wkH, wkB, WVL, WV_refl', Int.natCast_zero, Int.natCast_add, Int.natCast_one, Nat.sub_self, Nat.sub_zero, List.replicate_zero, List.take_zero, List.nil_append, List.append_nil, fillC_zero, Nat.reduceDiv, Nat.reduceAdd, upd_bk, bk_at, getB_zero, getB_succ, modB_zero, modB_succ, rows_lit, repB_zero, repB_succ, List.length_cons, List.length_nil, upd_upd_same, upd_apply, mk_tmp, mk_heap, mk_gen, lookupA, lookupH, List.getD_cons_zero, List.getD_cons_succ, init_two, tops, Bool.true_and, and_self, and_true, true_and, true_or, if_true, if_false, ite_true, ite_false, reduceCtorEq, reduceIte]
  have hltI : ¬ (k : Int) < 36 := by omega
  have e36 : k = 36 := by omega
  subst e36
  simp (config := { maxSteps := 1000000 }) +decide only [NoH, Old, OldL, nilQ, nilA, asgn, nz, RechL, ReY, isNew, stepO, XPost, postN, XOk, updN, updU, isEff, avalue, aeff, ASt.eval, ASt.put, ASt.set, ASt.new, Nat.reduceDiv, Nat.reduceAdd, Int.reduceToNat, absV, absC, scalar, alen, acap, conc, flats, live, blkOf, aload, rd, part?, afieldAddr, afield, aindexAddr, cellsOf, afill, places, abuild, optI, asliceV, asliceS, szOk, srcCells, aappend, acopy, astore, amakeSlice, abuildSlice, snapL, mapO, treeL, AVal.tree, AVal.flatT, isFlat, ares, isFz, afroz, afrozB, lookupA, lookupH, tops, if_true, if_false, reduceCtorEq, forall_const, ite_true, ite_false, implies_true, walkS, tabS, Try.results9, eq_false hltI]
  refine ex_loop (fun p : {p : Nat × Nat × Nat // p.1 ≤ 19} => mkG (ghs [] [3, 4, 54, 76]) [(4, anP b), (6, .ptr 6 0 0), (8, .ptr 8 1 0), (9, .clo 20 [.ptr 8 1 0, anP a, anP b]), (59, ints a.V), (60, .i 19), (61, .i p.1.1)] [(6, ⟨0, 4, [.flat (.string ByteArray.empty), .i 0, .nl, .nl]⟩), (8, ⟨1, 4, [.t nm, .i (max a.g b.g), .own 55 g1 0 36, .own 77 p.1.2.1 0 p.1.1]⟩), (55, ⟨g1, 1, mapC AVal.i (lsL a b a.H b.H 36)⟩), (77, ⟨p.1.2.1, 1, mapC AVal.i (lsL a b a.V b.V p.1.1)⟩)] p.1.2.2 81) (fun p => 19 - p.1.1) ⟨(0, G, G + 20), Nat.zero_le _⟩ ?_ ?_
  · have e0 : lsL a b a.V b.V 0 = [] := rfl
    have e19 : (a.V.length : Int) = 19 := by omega
    refine weak_mk rfl (by first | exact Nat.le_refl _ | (simp only [mk_gen]; omega)) ?_ ?_ <;> simp +decide only [w_lookup_nil, w_lookup_cons, ch_ch, ch_lit, lit_ch, wkT, wkH, wkB, WVL, WV_refl', Int.natCast_zero, Int.natCast_add, Int.natCast_one, Nat.sub_self, Nat.sub_zero, List.replicate_zero, List.take_zero, List.nil_append, List.append_nil, fillC_zero, Nat.reduceDiv, Nat.reduceAdd, upd_bk, bk_at, getB_zero, getB_succ, modB_zero, modB_succ, rows_lit, repB_zero, repB_succ, List.length_cons, List.length_nil, upd_upd_same, upd_apply, mk_tmp, mk_heap, mk_gen, lookupA, lookupH, List.getD_cons_zero, List.getD_cons_succ, init_two, tops, Bool.true_and, and_self, and_true, true_and, true_or, if_true, if_false, ite_true, ite_false, reduceCtorEq, reduceIte, e0, mapC_nil, e19]
    exact ⟨.inr (WV_nl (blk := ⟨G, 1, []⟩) rfl rfl rfl rfl), by omega, by omega⟩
  rintro ⟨⟨j, g2, G2⟩, j1⟩
  have j1' : j ≤ 19 := j1
  have lj := lsL_len a b a.V b.V j
  have tj : (lsL a b a.V b.V j).take j = lsL a b a.V b.V j := List.take_of_length_le (by omega)
  by_cases hlt : j < 19
  · have hltI : (j : Int) < 19 := by omega
    have wj : IntKind.i64.wrap ((j : Int) + 1) = ((j + 1 : Nat) : Int) := wrap64 (by omega) (by omega)
    have kA : j < a.V.length := by omega
    have kB : j < b.V.length := by omega
    have kAI : (j : Int) < (a.V.length : Int) := by omega
    have kBI : (j : Int) < (b.V.length : Int) := by omega
    have cA := cellA kA
    have cB := cellA kB
    have dE0 := den_env1 h1 h2 nm (lsL a b a.H b.H 36) (lsL a b a.V b.V j) (h1.V _ (gdM kA)) (h2.V _ (gdM kB))
    have dE : Den Try.prog 20 [.i (a.V.getD j 0), .i (b.V.getD j 0), .iptr [.t nm, .i (max a.g b.g), .lst (mapC AVal.i (lsL a b a.H b.H 36)) 36, .lst (mapC AVal.i (lsL a b a.V b.V j)) j] 0, anP a, anP b] (.i (lsV a b (a.V.getD j 0) (b.V.getD j 0))) := by
      have e : ints (lsL a b a.H b.H 36) = .lst (mapC AVal.i (lsL a b a.H b.H 36)) 36 := by
        show AVal.lst _ _ = _
        rw [lk]
      have e2 : ints (lsL a b a.V b.V j) = .lst (mapC AVal.i (lsL a b a.V b.V j)) j := by
        show AVal.lst _ _ = _
        rw [lj]
      rw [← e, ← e2]
      exact dE0
    have sn := lsL_snoc a b a.V b.V j
    have sm : mapC AVal.i (lsL a b a.V b.V j) ++ [AVal.i (lsV a b (a.V.getD j 0) (b.V.getD j 0))] = mapC AVal.i (lsL a b a.V b.V (j + 1)) := by rw [← sn]; simp [mapC]
    have h8 : (j + 1) * 8 ≤ 140737488355328 := by omega
    simp (config := { maxSteps := 1000000 }) +decide only [NoH, Old, OldL, nilQ, nilA, asgn, nz, RechL, ReY, isNew, stepO, XPost, postN, XOk, updN, updU, isEff, avalue, aeff, ASt.eval, ASt.put, ASt.set, ASt.new, Nat.reduceDiv, Nat.reduceAdd, Int.reduceToNat, absV, absC, scalar, alen, acap, conc, flats, live, blkOf, aload, rd, part?, afieldAddr, afield, aindexAddr, cellsOf, afill, places, abuild, optI, asliceV, asliceS, szOk, srcCells, aappend, acopy, astore, amakeSlice, abuildSlice, snapL, mapO, treeL, AVal.tree, AVal.flatT, isFlat, ares, isFz, afroz, afrozB, lookupA, lookupH, tops, if_true, if_false, reduceCtorEq, forall_const, ite_true, ite_false, implies_true, walkS, tabS, Try.results9, eq_true hltI, kA, kB, kAI, kBI, cA, cB, lk, lj, Nat.le_refl, tk, tj, treeL_i]
    refine callK dE (.inr rfl) ?_
    simp (config := { maxSteps := 1000000 }) +decide only [NoH, Old, OldL, nilQ, nilA, asgn, nz, RechL, ReY, isNew, stepO, XPost, postN, XOk, updN, updU, isEff, avalue, aeff, ASt.eval, ASt.put, ASt.set, ASt.new, Nat.reduceDiv, Nat.reduceAdd, Int.reduceToNat, absV, absC, scalar, alen, acap, conc, flats, live, blkOf, aload, rd, part?, afieldAddr, afield, aindexAddr, cellsOf, afill, places, abuild, optI, asliceV, asliceS, szOk, srcCells, aappend, acopy, astore, amakeSlice, abuildSlice, snapL, mapO, treeL, AVal.tree, AVal.flatT, isFlat, ares, isFz, afroz, afrozB, lookupA, lookupH, tops, if_true, if_false, reduceCtorEq, forall_const, ite_true, ite_false, implies_true, walkS, tabS, Try.results9, wj, lj, tj, sm, h8, q1, List.replicate_succ, List.flatten_cons, List.flatten_nil]
    refine ⟨⟨(j + 1, G2, G2 + 20), hlt⟩, ?_, by show 19 - (j + 1) < 19 - j; omega⟩
    refine weak_mk rfl (by first | exact Nat.le_refl _ | (simp only [mk_gen]; omega)) ?_ ?_ <;> simp +decide only [w_lookup_nil, w_lookup_cons, ch_ch, ch_lit, lit_ch, wkT, wkH, wkB, WVL, WV_refl', Int.natCast_zero, Int.natCast_add, Int.natCast_one, Nat.sub_self, Nat.sub_zero, List.replicate_zero, List.take_zero, List.nil_append, List.append_nil, fillC_zero, Nat.reduceDiv, Nat.reduceAdd, upd_bk, bk_at, getB_zero, getB_succ, modB_zero, modB_succ, rows_lit, repB_zero, repB_succ, List.length_cons, List.length_nil, upd_upd_same, upd_apply, mk_tmp, mk_heap, mk_gen, lookupA, lookupH, List.getD_cons_zero, List.getD_cons_succ, init_two, tops, Bool.true_and, and_self, and_true, true_and, true_or, if_true, if_false, ite_true, ite_false, reduceCtorEq, reduceIte]
  have hltI : ¬ (j : Int) < 19 := by omega
  have e19 : j = 19 := by omega
  subst e19
  simp (config := { maxSteps := 1000000 }) +decide only [NoH, Old, OldL, nilQ, nilA, asgn, nz, RechL, ReY, isNew, stepO, XPost, postN, XOk, updN, updU, isEff, avalue, aeff, ASt.eval, ASt.put, ASt.set, ASt.new, Nat.reduceDiv, Nat.reduceAdd, Int.reduceToNat, absV, absC, scalar, alen, acap, conc, flats, live, blkOf, aload, rd, part?, afieldAddr, afield, aindexAddr, cellsOf, afill, places, abuild, optI, asliceV, asliceS, szOk, srcCells, aappend, acopy, astore, amakeSlice, abuildSlice, snapL, mapO, treeL, AVal.tree, AVal.flatT, isFlat, ares, isFz, afroz, afrozB, lookupA, lookupH, tops, if_true, if_false, reduceCtorEq, forall_const, ite_true, ite_false, implies_true, walkS, tabS, Try.results9, eq_false hltI, lk, lj, tk, tj]
end Go.Proofs.Ytiaemddmkmfijaa
