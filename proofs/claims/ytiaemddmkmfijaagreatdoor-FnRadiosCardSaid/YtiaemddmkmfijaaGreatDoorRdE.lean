/-
  OWN WORK: radios: ratios beside others.
-/
import Derived.Test.YtiaemddmkmfijaaGreatDoorRdD
namespace Go.Proofs.YtiaemddmkmfijaaGreatDoor
open Go Go.Own Go.Proofs
set_option maxHeartbeats 4000000
set_option maxRecDepth 20000
set_option linter.unusedSimpArgs false
set_option linter.unusedVariables false
theorem mapC_snocI (L : List Int) (x : Int) : mapC AVal.i L ++ [AVal.i x] = mapC AVal.i (L ++ [x]) := by simp [mapC]
theorem frz_intsR {s s' : ASt} {β g : Nat} {xs : List Int} {n : Nat} (hn : xs.length = n) (h1 : s.heap β = some ⟨g, 1, mapC AVal.i xs⟩) (h3 : s'.heap β = none) : WV s s' (.own β g 0 n) (.lst (mapC AVal.i xs) n) :=
  WV_frz h1 rfl h3 (by simp [mapC, hn]) (by rw [List.drop_zero]; exact (List.take_of_length_le (by simp [mapC, hn])).symm) (treeL_i _)
structure SnOk (r : Rd) (l : Int) (os : List Int) : Prop where
  rd : RdOk r
  lv : ∀ i (h : i < (l :: os).length), LOk (l :: os)[i] ∧ LOk ((l :: os)[i] - r.fd)
  few : os.length ≤ 63
/-- the levels that disturb -/
def noL (r : Rd) (os : List Int) (k : Nat) : List Int := flV r :: (os.take k).map (· - r.fd)
theorem noL_snoc (r : Rd) {os : List Int} {k : Nat} (h : k < os.length) : noL r os k ++ [os[k] - r.fd] = noL r os (k + 1) := by
  unfold noL
  rw [List.take_succ_eq_append_getElem h, List.map_append]
  rfl
theorem top_ex : ∀ xs : List Int, xs ≠ [] → ∃ m ∈ xs, ∀ x ∈ xs, x ≤ m
  | [], h => absurd rfl h
  | [x], _ => ⟨x, by simp, fun y hy => by simp at hy; omega⟩
  | x :: y :: xs, _ => by
    obtain ⟨m, hm, hx⟩ := top_ex (y :: xs) (by simp)
    by_cases c : x ≤ m
    · exact ⟨m, List.mem_cons_of_mem _ hm, fun z hz => by
        rcases List.mem_cons.1 hz with e | e
        · omega
        · exact hx z e⟩
    · exact ⟨x, by simp, fun z hz => by
        rcases List.mem_cons.1 hz with e | e
        · omega
        · have := hx z e; omega⟩
def LvsOk (r : Rd) (l : Int) (os : List Int) : Prop := ∀ i (h : i < (l :: os).length), LOk (l :: os)[i] ∧ LOk ((l :: os)[i] - r.fd)
theorem den_SinrNo (r : Rd) (hb : RdB r) (l : Int) (os : List Int) (c1 : ¬ RdOk r) : Den Tryz.prog 40 [rdV r, .i l, ints os] (.tup [.i 0, .i 1]) := by
  refine den_of_awpG (ghs [] [3]) Tryz.func40 rfl (by kernel_rfl) (Nat.le_of_ble_eq_true rfl) (by simp only [treeL, AVal.tree, treeL_i, treeL_ints, treeL_u8, treeL_append, Bool.and_self, Bool.and_true, Bool.true_and]) (by first | rfl | simp only [treeL, AVal.tree, treeL_i, treeL_ints, treeL_u8, treeL_append, Bool.and_self, Bool.and_true, Bool.true_and]) mixed (by kernel_rfl) fun hl => ?_
  simp only [lensL, lens, lensL_i, lensL_mapC, maxI, and_true, true_and] at hl
  rw [Tryz.ntmps40]
  refine ex_start ?_
  simp (config := { maxSteps := 1000000 }) +decide only [NoH, Old, OldL, nilQ, nilA, asgn, nz, RechL, ReY, isNew, stepO, XPost, postN, XOk, updN, updU, isEff, avalue, aeff, ASt.eval, ASt.put, ASt.set, ASt.new, Nat.reduceDiv, Nat.reduceAdd, Int.reduceToNat, absV, absC, scalar, alen, acap, conc, flats, live, blkOf, aload, rd, part?, afieldAddr, afield, aindexAddr, cellsOf, afill, places, abuild, optI, asliceV, asliceS, szOk, srcCells, aappend, acopy, astore, amakeSlice, abuildSlice, snapL, mapO, treeL, AVal.tree, AVal.flatT, isFlat, ares, isFz, afroz, afrozB, lookupA, lookupH, tops, if_true, if_false, reduceCtorEq, forall_const, ite_true, ite_false, implies_true, walkS, tabS, Tryz.results40]
  refine callK (den_ValidRadio r hb) (by first | exact .inl rfl | exact .inr rfl) ?_
  simp (config := { maxSteps := 1000000 }) +decide only [NoH, Old, OldL, nilQ, nilA, asgn, nz, RechL, ReY, isNew, stepO, XPost, postN, XOk, updN, updU, isEff, avalue, aeff, ASt.eval, ASt.put, ASt.set, ASt.new, Nat.reduceDiv, Nat.reduceAdd, Int.reduceToNat, absV, absC, scalar, alen, acap, conc, flats, live, blkOf, aload, rd, part?, afieldAddr, afield, aindexAddr, cellsOf, afill, places, abuild, optI, asliceV, asliceS, szOk, srcCells, aappend, acopy, astore, amakeSlice, abuildSlice, snapL, mapO, treeL, AVal.tree, AVal.flatT, isFlat, ares, isFz, afroz, afrozB, lookupA, lookupH, tops, if_true, if_false, reduceCtorEq, forall_const, ite_true, ite_false, implies_true, walkS, tabS, Tryz.results40, eq_false c1]
theorem den_SinrR (r : Rd) (hb : RdB r) (l : Int) (os : List Int) (ho : os.length ≤ 1000) (c1 : RdOk r) {m : Int} (hm : m ∈ noL r os os.length) (hx : ∀ x ∈ noL r os os.length, x ≤ m) (rx rc : Int) (e1 : ¬ LvsOk r l os → rx = 0 ∧ rc = 2) (e2 : LvsOk r l os → 63 < os.length → rx = 0 ∧ rc = 5) (e3 : LvsOk r l os → os.length ≤ 63 → rx = l - r.fd - smV m (noL r os os.length) ∧ rc = 0) : Den Tryz.prog 40 [rdV r, .i l, ints os] (.tup [.i rx, .i rc]) := by
  have f := c1.fd
  have q1 : ∀ c : Int, (List.replicate 1 (0 : Int)).set 0 c = [c] := fun _ => rfl
  have ap : mapC AVal.i [l] ++ mapC AVal.i os = mapC AVal.i (l :: os) := rfl
  have h8 : (1 + os.length) * 8 ≤ 140737488355328 := by omega
  refine den_of_awpG (ghs [] [3, 54]) Tryz.func40 rfl (by kernel_rfl) (Nat.le_of_ble_eq_true rfl) (by simp only [treeL, AVal.tree, treeL_i, treeL_ints, treeL_u8, treeL_append, Bool.and_self, Bool.and_true, Bool.true_and]) (by first | rfl | simp only [treeL, AVal.tree, treeL_i, treeL_ints, treeL_u8, treeL_append, Bool.and_self, Bool.and_true, Bool.true_and]) mixed (by kernel_rfl) fun hl => ?_
  simp only [lensL, lens, lensL_i, lensL_mapC, maxI, and_true, true_and] at hl
  rw [Tryz.ntmps40]
  refine ex_start ?_
  simp (config := { maxSteps := 1000000 }) +decide only [NoH, Old, OldL, nilQ, nilA, asgn, nz, RechL, ReY, isNew, stepO, XPost, postN, XOk, updN, updU, isEff, avalue, aeff, ASt.eval, ASt.put, ASt.set, ASt.new, Nat.reduceDiv, Nat.reduceAdd, Int.reduceToNat, absV, absC, scalar, alen, acap, conc, flats, live, blkOf, aload, rd, part?, afieldAddr, afield, aindexAddr, cellsOf, afill, places, abuild, optI, asliceV, asliceS, szOk, srcCells, aappend, acopy, astore, amakeSlice, abuildSlice, snapL, mapO, treeL, AVal.tree, AVal.flatT, isFlat, ares, isFz, afroz, afrozB, lookupA, lookupH, tops, if_true, if_false, reduceCtorEq, forall_const, ite_true, ite_false, implies_true, walkS, tabS, Tryz.results40]
  refine callK (den_ValidRadio r hb) (by first | exact .inl rfl | exact .inr rfl) ?_
  simp (config := { maxSteps := 1000000 }) +decide only [NoH, Old, OldL, nilQ, nilA, asgn, nz, RechL, ReY, isNew, stepO, XPost, postN, XOk, updN, updU, isEff, avalue, aeff, ASt.eval, ASt.put, ASt.set, ASt.new, Nat.reduceDiv, Nat.reduceAdd, Int.reduceToNat, absV, absC, scalar, alen, acap, conc, flats, live, blkOf, aload, rd, part?, afieldAddr, afield, aindexAddr, cellsOf, afill, places, abuild, optI, asliceV, asliceS, szOk, srcCells, aappend, acopy, astore, amakeSlice, abuildSlice, snapL, mapO, treeL, AVal.tree, AVal.flatT, isFlat, ares, isFz, afroz, afrozB, lookupA, lookupH, tops, if_true, if_false, reduceCtorEq, forall_const, ite_true, ite_false, implies_true, walkS, tabS, Tryz.results40, eq_true c1, q1, ap, h8]
  have ll : (l :: os).length = 1 + os.length := by rw [List.length_cons]; omega
  refine ex_loop (fun p : {p : Nat // p ≤ 1 + os.length ∧ ∀ i (h : i < (l :: os).length), i < p → LOk (l :: os)[i] ∧ LOk ((l :: os)[i] - r.fd)} => mkG (ghs [] [3, 54]) [(1, .i l), (2, ints os), (3, rdP r), (19, .lst (mapC AVal.i (l :: os)) (1 + os.length)), (20, .i (1 + os.length : Nat)), (21, .i p.1)] [] 2 64) (fun p => 1 + os.length - p.1) ⟨0, Nat.zero_le _, fun i h h0 => absurd h0 (Nat.not_lt_zero _)⟩ ?_ ?_
  · refine weak_mk rfl (by first | exact Nat.le_refl _ | (simp only [mk_gen]; omega)) ?_ ?_ <;> simp +decide only [w_lookup_nil, w_lookup_cons, ch_ch, ch_lit, lit_ch, wkT, wkH, wkB, WVL, WV_refl', Int.natCast_zero, Int.natCast_add, Int.natCast_one, Nat.sub_self, Nat.sub_zero, List.replicate_zero, List.take_zero, List.nil_append, List.append_nil, fillC_zero, Nat.reduceDiv, Nat.reduceAdd, upd_bk, bk_at, getB_zero, getB_succ, modB_zero, modB_succ, rows_lit, repB_zero, repB_succ, List.length_cons, List.length_nil, upd_upd_same, upd_apply, mk_tmp, mk_heap, mk_gen, lookupA, lookupH, List.getD_cons_zero, List.getD_cons_succ, init_two, tops, Bool.true_and, and_self, and_true, true_and, true_or, if_true, if_false, ite_true, ite_false, reduceCtorEq, reduceIte]
    exact frz_intsR ll rfl rfl
  rintro ⟨k, k1, k2⟩
  have k1' : k ≤ 1 + os.length := k1
  have k2' : ∀ i (h : i < (l :: os).length), i < k → LOk (l :: os)[i] ∧ LOk ((l :: os)[i] - r.fd) := k2
  by_cases hlt : k < 1 + os.length
  · have hltI : (k : Int) < ((1 + os.length : Nat) : Int) := by omega
    have hk : k < (l :: os).length := by omega
    have hk2 : k < os.length + 1 := by omega
    have wk : IntKind.i64.wrap ((k : Int) + 1) = ((k + 1 : Nat) : Int) := wrap64 (by omega) (by omega)
    have ck : (mapC AVal.i (l :: os))[k]? = some (.i (l :: os)[k]) := by simp only [mapC, List.getElem?_map, List.getElem?_eq_getElem hk, Option.map_some]
    have nx : LOk (l :: os)[k] ∧ LOk ((l :: os)[k] - r.fd) → ∀ i (h : i < (l :: os).length), i < k + 1 → LOk (l :: os)[i] ∧ LOk ((l :: os)[i] - r.fd) := fun h i hi hik => by
      by_cases e : i = k
      · subst e; exact h
      · exact k2' i hi (by omega)
    have no : ¬ (LOk (l :: os)[k] ∧ LOk ((l :: os)[k] - r.fd)) → rx = 0 ∧ rc = 2 := fun h => e1 fun hh => h (hh k hk)
    generalize (l :: os)[k] = v at *
    simp (config := { maxSteps := 1000000 }) +decide only [NoH, Old, OldL, nilQ, nilA, asgn, nz, RechL, ReY, isNew, stepO, XPost, postN, XOk, updN, updU, isEff, avalue, aeff, ASt.eval, ASt.put, ASt.set, ASt.new, Nat.reduceDiv, Nat.reduceAdd, Int.reduceToNat, absV, absC, scalar, alen, acap, conc, flats, live, blkOf, aload, rd, part?, afieldAddr, afield, aindexAddr, cellsOf, afill, places, abuild, optI, asliceV, asliceS, szOk, srcCells, aappend, acopy, astore, amakeSlice, abuildSlice, snapL, mapO, treeL, AVal.tree, AVal.flatT, isFlat, ares, isFz, afroz, afrozB, lookupA, lookupH, tops, if_true, if_false, reduceCtorEq, forall_const, ite_true, ite_false, implies_true, walkS, tabS, Tryz.results40, eq_true hltI, hlt, hk2, ck]
    refine callK (den_ValidLevel v) (by first | exact .inl rfl | exact .inr rfl) ?_
    by_cases d1 : LOk v
    case neg =>
      obtain ⟨rfl, rfl⟩ := no fun h => d1 h.1
      simp (config := { maxSteps := 1000000 }) +decide only [NoH, Old, OldL, nilQ, nilA, asgn, nz, RechL, ReY, isNew, stepO, XPost, postN, XOk, updN, updU, isEff, avalue, aeff, ASt.eval, ASt.put, ASt.set, ASt.new, Nat.reduceDiv, Nat.reduceAdd, Int.reduceToNat, absV, absC, scalar, alen, acap, conc, flats, live, blkOf, aload, rd, part?, afieldAddr, afield, aindexAddr, cellsOf, afill, places, abuild, optI, asliceV, asliceS, szOk, srcCells, aappend, acopy, astore, amakeSlice, abuildSlice, snapL, mapO, treeL, AVal.tree, AVal.flatT, isFlat, ares, isFz, afroz, afrozB, lookupA, lookupH, tops, if_true, if_false, reduceCtorEq, forall_const, ite_true, ite_false, implies_true, walkS, tabS, Tryz.results40, eq_false d1]
    obtain ⟨v1, v2⟩ := id d1
    have wv : IntKind.i64.wrap (v - r.fd) = v - r.fd := wrap64 (by omega) (by omega)
    simp (config := { maxSteps := 1000000 }) +decide only [NoH, Old, OldL, nilQ, nilA, asgn, nz, RechL, ReY, isNew, stepO, XPost, postN, XOk, updN, updU, isEff, avalue, aeff, ASt.eval, ASt.put, ASt.set, ASt.new, Nat.reduceDiv, Nat.reduceAdd, Int.reduceToNat, absV, absC, scalar, alen, acap, conc, flats, live, blkOf, aload, rd, part?, afieldAddr, afield, aindexAddr, cellsOf, afill, places, abuild, optI, asliceV, asliceS, szOk, srcCells, aappend, acopy, astore, amakeSlice, abuildSlice, snapL, mapO, treeL, AVal.tree, AVal.flatT, isFlat, ares, isFz, afroz, afrozB, lookupA, lookupH, tops, if_true, if_false, reduceCtorEq, forall_const, ite_true, ite_false, implies_true, walkS, tabS, Tryz.results40, eq_true d1, wv]
    refine callK (den_ValidLevel (v - r.fd)) (by first | exact .inl rfl | exact .inr rfl) ?_
    by_cases d2 : LOk (v - r.fd)
    case neg =>
      obtain ⟨rfl, rfl⟩ := no fun h => d2 h.2
      simp (config := { maxSteps := 1000000 }) +decide only [NoH, Old, OldL, nilQ, nilA, asgn, nz, RechL, ReY, isNew, stepO, XPost, postN, XOk, updN, updU, isEff, avalue, aeff, ASt.eval, ASt.put, ASt.set, ASt.new, Nat.reduceDiv, Nat.reduceAdd, Int.reduceToNat, absV, absC, scalar, alen, acap, conc, flats, live, blkOf, aload, rd, part?, afieldAddr, afield, aindexAddr, cellsOf, afill, places, abuild, optI, asliceV, asliceS, szOk, srcCells, aappend, acopy, astore, amakeSlice, abuildSlice, snapL, mapO, treeL, AVal.tree, AVal.flatT, isFlat, ares, isFz, afroz, afrozB, lookupA, lookupH, tops, if_true, if_false, reduceCtorEq, forall_const, ite_true, ite_false, implies_true, walkS, tabS, Tryz.results40, eq_false d2]
    have nx' := nx ⟨d1, d2⟩
    simp (config := { maxSteps := 1000000 }) +decide only [NoH, Old, OldL, nilQ, nilA, asgn, nz, RechL, ReY, isNew, stepO, XPost, postN, XOk, updN, updU, isEff, avalue, aeff, ASt.eval, ASt.put, ASt.set, ASt.new, Nat.reduceDiv, Nat.reduceAdd, Int.reduceToNat, absV, absC, scalar, alen, acap, conc, flats, live, blkOf, aload, rd, part?, afieldAddr, afield, aindexAddr, cellsOf, afill, places, abuild, optI, asliceV, asliceS, szOk, srcCells, aappend, acopy, astore, amakeSlice, abuildSlice, snapL, mapO, treeL, AVal.tree, AVal.flatT, isFlat, ares, isFz, afroz, afrozB, lookupA, lookupH, tops, if_true, if_false, reduceCtorEq, forall_const, ite_true, ite_false, implies_true, walkS, tabS, Tryz.results40, eq_true d2, wk]
    refine ⟨⟨k + 1, hlt, nx'⟩, ?_, by show 1 + os.length - (k + 1) < 1 + os.length - k; omega⟩
    refine weak_mk rfl (by first | exact Nat.le_refl _ | (simp only [mk_gen]; omega)) ?_ ?_ <;> simp +decide only [w_lookup_nil, w_lookup_cons, ch_ch, ch_lit, lit_ch, wkT, wkH, wkB, WVL, WV_refl', Int.natCast_zero, Int.natCast_add, Int.natCast_one, Nat.sub_self, Nat.sub_zero, List.replicate_zero, List.take_zero, List.nil_append, List.append_nil, fillC_zero, Nat.reduceDiv, Nat.reduceAdd, upd_bk, bk_at, getB_zero, getB_succ, modB_zero, modB_succ, rows_lit, repB_zero, repB_succ, List.length_cons, List.length_nil, upd_upd_same, upd_apply, mk_tmp, mk_heap, mk_gen, lookupA, lookupH, List.getD_cons_zero, List.getD_cons_succ, init_two, tops, Bool.true_and, and_self, and_true, true_and, true_or, if_true, if_false, ite_true, ite_false, reduceCtorEq, reduceIte]
  have hltI : ¬ (k : Int) < ((1 + os.length : Nat) : Int) := by omega
  have lv : LvsOk r l os := fun i hi => k2' i hi (by omega)
  by_cases c3 : 63 < os.length
  · have c3I : (63 : Int) < (os.length : Int) := by omega
    obtain ⟨rfl, rfl⟩ := e2 lv c3
    simp (config := { maxSteps := 1000000 }) +decide only [NoH, Old, OldL, nilQ, nilA, asgn, nz, RechL, ReY, isNew, stepO, XPost, postN, XOk, updN, updU, isEff, avalue, aeff, ASt.eval, ASt.put, ASt.set, ASt.new, Nat.reduceDiv, Nat.reduceAdd, Int.reduceToNat, absV, absC, scalar, alen, acap, conc, flats, live, blkOf, aload, rd, part?, afieldAddr, afield, aindexAddr, cellsOf, afill, places, abuild, optI, asliceV, asliceS, szOk, srcCells, aappend, acopy, astore, amakeSlice, abuildSlice, snapL, mapO, treeL, AVal.tree, AVal.flatT, isFlat, ares, isFz, afroz, afrozB, lookupA, lookupH, tops, if_true, if_false, reduceCtorEq, forall_const, ite_true, ite_false, implies_true, walkS, tabS, Tryz.results40, eq_false hltI, eq_true c3I]
  have c3I : ¬ (63 : Int) < (os.length : Int) := by omega
  obtain ⟨rfl, rfl⟩ := e3 lv (by omega)
  have ff := flV_in c1
  have ov : ∀ (j : Nat) (hj : j < os.length), LOk (os[j] - r.fd) := fun j hj => (lv (j + 1) (by rw [List.length_cons]; omega)).2
  simp (config := { maxSteps := 1000000 }) +decide only [NoH, Old, OldL, nilQ, nilA, asgn, nz, RechL, ReY, isNew, stepO, XPost, postN, XOk, updN, updU, isEff, avalue, aeff, ASt.eval, ASt.put, ASt.set, ASt.new, Nat.reduceDiv, Nat.reduceAdd, Int.reduceToNat, absV, absC, scalar, alen, acap, conc, flats, live, blkOf, aload, rd, part?, afieldAddr, afield, aindexAddr, cellsOf, afill, places, abuild, optI, asliceV, asliceS, szOk, srcCells, aappend, acopy, astore, amakeSlice, abuildSlice, snapL, mapO, treeL, AVal.tree, AVal.flatT, isFlat, ares, isFz, afroz, afrozB, lookupA, lookupH, tops, if_true, if_false, reduceCtorEq, forall_const, ite_true, ite_false, implies_true, walkS, tabS, Tryz.results40, eq_false hltI, eq_false c3I]
  refine callK (den_floor c1) (by first | exact .inl rfl | exact .inr rfl) ?_
  simp (config := { maxSteps := 1000000 }) +decide only [NoH, Old, OldL, nilQ, nilA, asgn, nz, RechL, ReY, isNew, stepO, XPost, postN, XOk, updN, updU, isEff, avalue, aeff, ASt.eval, ASt.put, ASt.set, ASt.new, Nat.reduceDiv, Nat.reduceAdd, Int.reduceToNat, absV, absC, scalar, alen, acap, conc, flats, live, blkOf, aload, rd, part?, afieldAddr, afield, aindexAddr, cellsOf, afill, places, abuild, optI, asliceV, asliceS, szOk, srcCells, aappend, acopy, astore, amakeSlice, abuildSlice, snapL, mapO, treeL, AVal.tree, AVal.flatT, isFlat, ares, isFz, afroz, afrozB, lookupA, lookupH, tops, if_true, if_false, reduceCtorEq, forall_const, ite_true, ite_false, implies_true, walkS, tabS, Tryz.results40, q1]
  refine ex_loopW (fun p : {p : Nat × Nat × Nat // p.1 ≤ os.length} => mkG (ghs [] [3, 54]) [(1, .i l), (3, rdP r), (10, .own 42 p.1.2.1 0 (p.1.1 + 1)), (43, ints os), (44, .i os.length), (45, .i p.1.1)] [(42, ⟨p.1.2.1, 1, mapC AVal.i (noL r os p.1.1)⟩)] p.1.2.2 64) (fun p => os.length - p.1.1) ⟨(0, 2, 3), Nat.zero_le _⟩ ?_ ?_
  · have e0 : noL r os 0 = [flV r] := rfl
    refine weak_mk rfl (by first | exact Nat.le_refl _ | (simp only [mk_gen]; omega)) ?_ ?_ <;> simp +decide only [w_lookup_nil, w_lookup_cons, ch_ch, ch_lit, lit_ch, wkT, wkH, wkB, WVL, WV_refl', Int.natCast_zero, Int.natCast_add, Int.natCast_one, Nat.sub_self, Nat.sub_zero, List.replicate_zero, List.take_zero, List.nil_append, List.append_nil, fillC_zero, Nat.reduceDiv, Nat.reduceAdd, upd_bk, bk_at, getB_zero, getB_succ, modB_zero, modB_succ, rows_lit, repB_zero, repB_succ, List.length_cons, List.length_nil, upd_upd_same, upd_apply, mk_tmp, mk_heap, mk_gen, lookupA, lookupH, List.getD_cons_zero, List.getD_cons_succ, init_two, tops, Bool.true_and, and_self, and_true, true_and, true_or, if_true, if_false, ite_true, ite_false, reduceCtorEq, reduceIte, e0]
  rintro ⟨⟨j, g1, G⟩, j1⟩
  have j1' : j ≤ os.length := j1
  have lj : (noL r os j).length = j + 1 := by simp [noL]; omega
  by_cases jlt : j < os.length
  case neg =>
    have ej : j = os.length := by omega
    subst ej
    have jltI : ¬ (os.length : Int) < (os.length : Int) := by omega
    have bd : ∀ x ∈ noL r os os.length, -400000 ≤ x ∧ x ≤ 400000 := fun x hx => by
      unfold noL at hx
      rw [List.take_length] at hx
      rcases List.mem_cons.1 hx with e | e
      · omega
      · obtain ⟨y, hy, rfl⟩ := List.mem_map.1 e
        obtain ⟨j, hj, rfl⟩ := List.getElem_of_mem hy
        obtain ⟨a1, a2⟩ := ov j hj
        show -400000 ≤ os[j] - r.fd ∧ os[j] - r.fd ≤ 400000
        omega
    have dS := den_sumDb (noL r os os.length) m (by omega) hm hx bd
    have g := smV_ge hm hx
    have u := smV_le (by omega) hm hx
    have mb := bd m hm
    obtain ⟨⟨l1, l2⟩, _⟩ := lv 0 (by simp)
    have l1' : -300000 ≤ l := l1
    have l2' : l ≤ 300000 := l2
    have w1 : IntKind.i64.wrap (l - r.fd) = l - r.fd := wrap64 (by omega) (by omega)
    have w2 : IntKind.i64.wrap (l - r.fd - smV m (noL r os os.length)) = l - r.fd - smV m (noL r os os.length) := wrap64 (by omega) (by omega)
    generalize noL r os os.length = N at *
    simp (config := { maxSteps := 1000000 }) +decide only [NoH, Old, OldL, nilQ, nilA, asgn, nz, RechL, ReY, isNew, stepO, XPost, postN, XOk, updN, updU, isEff, avalue, aeff, ASt.eval, ASt.put, ASt.set, ASt.new, Nat.reduceDiv, Nat.reduceAdd, Int.reduceToNat, absV, absC, scalar, alen, acap, conc, flats, live, blkOf, aload, rd, part?, afieldAddr, afield, aindexAddr, cellsOf, afill, places, abuild, optI, asliceV, asliceS, szOk, srcCells, aappend, acopy, astore, amakeSlice, abuildSlice, snapL, mapO, treeL, AVal.tree, AVal.flatT, isFlat, ares, isFz, afroz, afrozB, lookupA, lookupH, tops, if_true, if_false, reduceCtorEq, forall_const, ite_true, ite_false, implies_true, walkS, tabS, Tryz.results40, eq_false jltI, loopW_exit]
    refine ⟨mkG (ghs [] [3, 54]) [(1, .i l), (3, rdP r), (10, ints N)] [] G 64, .step ?_ (.refl _), ?_⟩
    · refine weak_mk rfl (by first | exact Nat.le_refl _ | (simp only [mk_gen]; omega)) ?_ ?_ <;> simp +decide only [w_lookup_nil, w_lookup_cons, ch_ch, ch_lit, lit_ch, wkT, wkH, wkB, WVL, WV_refl', Int.natCast_zero, Int.natCast_add, Int.natCast_one, Nat.sub_self, Nat.sub_zero, List.replicate_zero, List.take_zero, List.nil_append, List.append_nil, fillC_zero, Nat.reduceDiv, Nat.reduceAdd, upd_bk, bk_at, getB_zero, getB_succ, modB_zero, modB_succ, rows_lit, repB_zero, repB_succ, List.length_cons, List.length_nil, upd_upd_same, upd_apply, mk_tmp, mk_heap, mk_gen, lookupA, lookupH, List.getD_cons_zero, List.getD_cons_succ, init_two, tops, Bool.true_and, and_self, and_true, true_and, true_or, if_true, if_false, ite_true, ite_false, reduceCtorEq, reduceIte]
      have eN : ints N = .lst (mapC AVal.i N) (os.length + 1) := by
        show AVal.lst _ _ = _
        rw [lj]
      rw [eN]
      exact frz_intsR lj rfl rfl
    · simp (config := { maxSteps := 1000000 }) +decide only [NoH, Old, OldL, nilQ, nilA, asgn, nz, RechL, ReY, isNew, stepO, XPost, postN, XOk, updN, updU, isEff, avalue, aeff, ASt.eval, ASt.put, ASt.set, ASt.new, Nat.reduceDiv, Nat.reduceAdd, Int.reduceToNat, absV, absC, scalar, alen, acap, conc, flats, live, blkOf, aload, rd, part?, afieldAddr, afield, aindexAddr, cellsOf, afill, places, abuild, optI, asliceV, asliceS, szOk, srcCells, aappend, acopy, astore, amakeSlice, abuildSlice, snapL, mapO, treeL, AVal.tree, AVal.flatT, isFlat, ares, isFz, afroz, afrozB, lookupA, lookupH, tops, if_true, if_false, reduceCtorEq, forall_const, ite_true, ite_false, implies_true, walkS, tabS, Tryz.results40]
      refine callK (dS) (by first | exact .inl rfl | exact .inr rfl) ?_
      simp (config := { maxSteps := 1000000 }) +decide only [NoH, Old, OldL, nilQ, nilA, asgn, nz, RechL, ReY, isNew, stepO, XPost, postN, XOk, updN, updU, isEff, avalue, aeff, ASt.eval, ASt.put, ASt.set, ASt.new, Nat.reduceDiv, Nat.reduceAdd, Int.reduceToNat, absV, absC, scalar, alen, acap, conc, flats, live, blkOf, aload, rd, part?, afieldAddr, afield, aindexAddr, cellsOf, afill, places, abuild, optI, asliceV, asliceS, szOk, srcCells, aappend, acopy, astore, amakeSlice, abuildSlice, snapL, mapO, treeL, AVal.tree, AVal.flatT, isFlat, ares, isFz, afroz, afrozB, lookupA, lookupH, tops, if_true, if_false, reduceCtorEq, forall_const, ite_true, ite_false, implies_true, walkS, tabS, Tryz.results40, w1, w2]
  have jltI : (j : Int) < (os.length : Int) := by omega
  have wj : IntKind.i64.wrap ((j : Int) + 1) = ((j + 1 : Nat) : Int) := wrap64 (by omega) (by omega)
  obtain ⟨v1, v2⟩ := ov j jlt
  have wv : IntKind.i64.wrap (os[j] - r.fd) = os[j] - r.fd := wrap64 (by omega) (by omega)
  have tk : (noL r os j).take (j + 1) = noL r os j := List.take_of_length_le (by omega)
  have h82 : (j + 1 + 1) * 8 ≤ 140737488355328 := by omega
  have sn := noL_snoc r jlt
  have jl : j < (noL r os j).length := by omega
  simp (config := { maxSteps := 1000000 }) +decide only [NoH, Old, OldL, nilQ, nilA, asgn, nz, RechL, ReY, isNew, stepO, XPost, postN, XOk, updN, updU, isEff, avalue, aeff, ASt.eval, ASt.put, ASt.set, ASt.new, Nat.reduceDiv, Nat.reduceAdd, Int.reduceToNat, absV, absC, scalar, alen, acap, conc, flats, live, blkOf, aload, rd, part?, afieldAddr, afield, aindexAddr, cellsOf, afill, places, abuild, optI, asliceV, asliceS, szOk, srcCells, aappend, acopy, astore, amakeSlice, abuildSlice, snapL, mapO, treeL, AVal.tree, AVal.flatT, isFlat, ares, isFz, afroz, afrozB, lookupA, lookupH, tops, if_true, if_false, reduceCtorEq, forall_const, ite_true, ite_false, implies_true, walkS, tabS, Tryz.results40, eq_true jltI, jlt, jl, wj, wv, tk, h82, q1, List.replicate_succ, List.flatten_cons, List.flatten_nil, mapC_snocI, sn, List.length_set, List.length_replicate]
  refine ⟨⟨(j + 1, G, G + 1), jlt⟩, ?_, by show os.length - (j + 1) < os.length - j; omega⟩
  refine weak_mk rfl (by first | exact Nat.le_refl _ | (simp only [mk_gen]; omega)) ?_ ?_ <;> simp +decide only [w_lookup_nil, w_lookup_cons, ch_ch, ch_lit, lit_ch, wkT, wkH, wkB, WVL, WV_refl', Int.natCast_zero, Int.natCast_add, Int.natCast_one, Nat.sub_self, Nat.sub_zero, List.replicate_zero, List.take_zero, List.nil_append, List.append_nil, fillC_zero, Nat.reduceDiv, Nat.reduceAdd, upd_bk, bk_at, getB_zero, getB_succ, modB_zero, modB_succ, rows_lit, repB_zero, repB_succ, List.length_cons, List.length_nil, upd_upd_same, upd_apply, mk_tmp, mk_heap, mk_gen, lookupA, lookupH, List.getD_cons_zero, List.getD_cons_succ, init_two, tops, Bool.true_and, and_self, and_true, true_and, true_or, if_true, if_false, ite_true, ite_false, reduceCtorEq, reduceIte]
end Go.Proofs.YtiaemddmkmfijaaGreatDoor
