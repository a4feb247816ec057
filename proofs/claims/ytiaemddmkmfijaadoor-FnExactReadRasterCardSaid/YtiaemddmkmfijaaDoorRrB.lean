/-
  OWN WORK: lists read from any text.
-/
import Derived.Test.YtiaemddmkmfijaaDoorRrA
namespace Go.Proofs.YtiaemddmkmfijaaDoor
open Go Go.Own Go.Proofs Go.RowKit
open Go.Sort (grow)
set_option maxHeartbeats 4000000
set_option maxRecDepth 20000
set_option linter.unusedSimpArgs false
set_option linter.unusedVariables false
theorem splitK_in {sep : List UInt8} : ∀ (k : Nat) (s : List UInt8), (Lib.splitK sep 0 k s).length ≤ k + 1 ∧ 1 ≤ (Lib.splitK sep 0 k s).length ∧ ∀ x ∈ Lib.splitK sep 0 k s, x.length ≤ s.length
  | 0, s => by
    unfold Lib.splitK
    simp
  | k + 1, s => by
    unfold Lib.splitK
    split
    · simp
    · have ih := splitK_in (sep := sep) k (s.drop ((Lib.index s sep).toNat + sep.length))
      refine ⟨by simp; exact ih.1, by simp, fun x hx => ?_⟩
      rcases List.mem_cons.1 hx with e | e
      · subst e
        simp
        omega
      · have := ih.2.2 x e
        simp at this
        omega
theorem ex_first {p : Nat → Prop} : ∀ N : Nat, ¬ p N → ∃ n, n ≤ N ∧ ¬ p n ∧ ∀ k, k < n → p k := by
  intro N
  induction N using Nat.strongRecOn with
  | _ N ih =>
    intro h
    by_cases c : ∃ m, m < N ∧ ¬ p m
    · obtain ⟨m, hm, hp⟩ := c
      obtain ⟨n, h1, h2, h3⟩ := ih m hm hp
      exact ⟨n, by omega, h2, h3⟩
    · exact ⟨N, Nat.le_refl _, h, fun k hk => Classical.byContradiction fun hp => c ⟨k, hk, hp⟩⟩
theorem ex_ReadList (T : List UInt8) (hT : T.length ≤ 1100000) : ∃ xs b, xs.length ≤ 65 ∧ Den Tryd.prog 64 [.t T] (.tup [ints xs, .b b]) := by
  by_cases h0 : T = [45]
  · refine ⟨[], true, by simp, ?_⟩
    refine den_of_awpG (ghs [] []) Tryd.func64 rfl (by kernel_rfl) (Nat.le_of_ble_eq_true rfl) (by simp only [treeL, AVal.tree, treeL_i, treeL_ints, treeL_u8, treeL_append, Bool.and_self, Bool.and_true, Bool.true_and]) (by first | rfl | simp only [treeL, AVal.tree, treeL_i, treeL_ints, treeL_u8, treeL_append, Bool.and_self, Bool.and_true, Bool.true_and]) mixed (by kernel_rfl) fun hl => ?_
    simp only [lensL, lens, lensL_i, lensL_mapC, maxI, and_true, true_and] at hl
    rw [Tryd.ntmps64]
    refine ex_start ?_
    simp (config := { maxSteps := 1000000 }) +decide only [NoH, Old, OldL, nilQ, nilA, asgn, nz, RechL, ReY, isNew, stepO, XPost, postN, XOk, updN, updU, isEff, avalue, aeff, ASt.eval, ASt.put, ASt.set, ASt.new, Nat.reduceDiv, Nat.reduceAdd, Int.reduceToNat, absV, absC, scalar, alen, acap, conc, flats, live, blkOf, aload, rd, part?, afieldAddr, afield, aindexAddr, cellsOf, afill, places, abuild, optI, asliceV, asliceS, szOk, srcCells, aappend, acopy, astore, amakeSlice, abuildSlice, snapL, mapO, treeL, AVal.tree, AVal.flatT, isFlat, ares, isFz, afroz, afrozB, lookupA, lookupH, tops, if_true, if_false, reduceCtorEq, forall_const, ite_true, ite_false, implies_true, walkS, tabS, Tryd.results64, sem_eqlT, eq_true h0]
  obtain ⟨f, g, hfg⟩ := dec_fun
  obtain ⟨s1, s2, s3⟩ := splitK_in (sep := [44]) (min 65 (T.length + 1) - 1) T
  have hs := den_SplitN T 44 65 (by omega) (by omega) (by omega)
  generalize Lib.splitK [44] 0 (min 65 (T.length + 1) - 1) T = P at *
  have p65 : P.length ≤ 65 := by omega
  have dP : ∀ i (hi : i < P.length), Den Tryd.prog 62 [.t P[i]] (.tup [.i (f P[i]), .b (g P[i])]) := fun i hi => hfg _ (by have := s3 _ (List.getElem_mem hi); omega)
  have gt : ∀ i (hi : i < P.length), (mapC AVal.t P)[i]? = some (.t P[i]) := fun i hi => by simp [mapC, hi]
  have gl : (mapC AVal.t P).length = P.length := by simp [mapC]
  by_cases hA : ∃ i, i < P.length ∧ ∀ hi : i < P.length, g P[i] = false
  · obtain ⟨m, m1, m2⟩ := hA
    obtain ⟨n, n1, n2, n3⟩ := ex_first (p := fun i => ∀ hi : i < P.length, g P[i] = true) m (fun k => by have := k m1; rw [m2 m1] at this; cases this)
    have nP : n < P.length := Nat.lt_of_le_of_lt n1 m1
    have gn : g P[n] = false := by
      cases hg : g P[n] with
      | false => rfl
      | true => exact absurd (fun hi => hg) n2
    have n3' : ∀ k, k < n → ∀ hi : k < P.length, g P[k] = true := n3
    clear n2 n3 m2
    refine ⟨[], false, by simp, ?_⟩
    refine den_of_awpG (ghs [] [27]) Tryd.func64 rfl (by kernel_rfl) (Nat.le_of_ble_eq_true rfl) (by simp only [treeL, AVal.tree, treeL_i, treeL_ints, treeL_u8, treeL_append, Bool.and_self, Bool.and_true, Bool.true_and]) (by first | rfl | simp only [treeL, AVal.tree, treeL_i, treeL_ints, treeL_u8, treeL_append, Bool.and_self, Bool.and_true, Bool.true_and]) mixed (by kernel_rfl) fun hl => ?_
    simp only [lensL, lens, lensL_i, lensL_mapC, maxI, and_true, true_and] at hl
    rw [Tryd.ntmps64]
    refine ex_start ?_
    simp (config := { maxSteps := 1000000 }) +decide only [NoH, Old, OldL, nilQ, nilA, asgn, nz, RechL, ReY, isNew, stepO, XPost, postN, XOk, updN, updU, isEff, avalue, aeff, ASt.eval, ASt.put, ASt.set, ASt.new, Nat.reduceDiv, Nat.reduceAdd, Int.reduceToNat, absV, absC, scalar, alen, acap, conc, flats, live, blkOf, aload, rd, part?, afieldAddr, afield, aindexAddr, cellsOf, afill, places, abuild, optI, asliceV, asliceS, szOk, srcCells, aappend, acopy, astore, amakeSlice, abuildSlice, snapL, mapO, treeL, AVal.tree, AVal.flatT, isFlat, ares, isFz, afroz, afrozB, lookupA, lookupH, tops, if_true, if_false, reduceCtorEq, forall_const, ite_true, ite_false, implies_true, walkS, tabS, Tryd.results64, sem_eqlT, eq_false h0]
    refine callK (hs) (by first | exact .inl rfl | exact .inr rfl) ?_
    simp (config := { maxSteps := 1000000 }) +decide only [NoH, Old, OldL, nilQ, nilA, asgn, nz, RechL, ReY, isNew, stepO, XPost, postN, XOk, updN, updU, isEff, avalue, aeff, ASt.eval, ASt.put, ASt.set, ASt.new, Nat.reduceDiv, Nat.reduceAdd, Int.reduceToNat, absV, absC, scalar, alen, acap, conc, flats, live, blkOf, aload, rd, part?, afieldAddr, afield, aindexAddr, cellsOf, afill, places, abuild, optI, asliceV, asliceS, szOk, srcCells, aappend, acopy, astore, amakeSlice, abuildSlice, snapL, mapO, treeL, AVal.tree, AVal.flatT, isFlat, ares, isFz, afroz, afrozB, lookupA, lookupH, tops, if_true, if_false, reduceCtorEq, forall_const, ite_true, ite_false, implies_true, walkS, tabS, Tryd.results64]
    refine ex_loop (fun p : {p : List Int × Nat × Nat // p.1.length ≤ n} => mkG (ghs [] [27]) [(0, .t T), (4, .own 28 p.1.2.1 0 p.1.1.length), (12, strs P), (13, .i P.length), (14, .i p.1.1.length)] [(28, ⟨p.1.2.1, 1, mapC AVal.i p.1.1⟩)] p.1.2.2 35) (fun p => n - p.1.1.length) ⟨([], 0, 1), Nat.zero_le _⟩ ?_ ?_
    · refine weak_mk rfl (by first | exact Nat.le_refl _ | (simp only [mk_gen]; omega)) ?_ ?_ <;> simp +decide only [w_lookup_nil, w_lookup_cons, ch_ch, ch_lit, lit_ch, wkT, wkH, wkB, WVL, WV_refl', Int.natCast_zero, Int.natCast_add, Int.natCast_one, Nat.sub_self, Nat.sub_zero, List.replicate_zero, List.take_zero, List.nil_append, List.append_nil, fillC_zero, Nat.reduceDiv, Nat.reduceAdd, upd_bk, bk_at, getB_zero, getB_succ, modB_zero, modB_succ, rows_lit, repB_zero, repB_succ, List.length_cons, List.length_nil, upd_upd_same, upd_apply, mk_tmp, mk_heap, mk_gen, lookupA, lookupH, List.getD_cons_zero, List.getD_cons_succ, init_two, tops, Bool.true_and, and_self, and_true, true_and, true_or, if_true, if_false, ite_true, ite_false, reduceCtorEq, reduceIte, mapC_nil, List.length_nil]
      exact WV_nl rfl rfl rfl rfl
    rintro ⟨⟨L, g1, G⟩, j1⟩
    have j1' : L.length ≤ n := j1
    have tk : L.take L.length = L := List.take_length
    have hlt : L.length < P.length := by omega
    have hltI : (L.length : Int) < (P.length : Int) := by omega
    have gtL := gt L.length hlt
    have dL := dP L.length hlt
    by_cases hn : L.length < n
    · have gy := n3' L.length hn hlt
      rw [gy] at dL
      have wk : IntKind.i64.wrap ((L.length : Int) + 1) = ((L.length + 1 : Nat) : Int) := wrap64 (by omega) (by omega)
      have h8 : (L.length + 1) * 8 ≤ 140737488355328 := by omega
      have sn : mapC AVal.i L ++ [AVal.i (f P[L.length])] = mapC AVal.i (L ++ [f P[L.length]]) := mapC_snoc ..
      simp (config := { maxSteps := 1000000 }) +decide only [NoH, Old, OldL, nilQ, nilA, asgn, nz, RechL, ReY, isNew, stepO, XPost, postN, XOk, updN, updU, isEff, avalue, aeff, ASt.eval, ASt.put, ASt.set, ASt.new, Nat.reduceDiv, Nat.reduceAdd, Int.reduceToNat, absV, absC, scalar, alen, acap, conc, flats, live, blkOf, aload, rd, part?, afieldAddr, afield, aindexAddr, cellsOf, afill, places, abuild, optI, asliceV, asliceS, szOk, srcCells, aappend, acopy, astore, amakeSlice, abuildSlice, snapL, mapO, treeL, AVal.tree, AVal.flatT, isFlat, ares, isFz, afroz, afrozB, lookupA, lookupH, tops, if_true, if_false, reduceCtorEq, forall_const, ite_true, ite_false, implies_true, walkS, tabS, Tryd.results64, eq_true hltI, hlt, gtL, gl]
      refine callK (dL) (by first | exact .inl rfl | exact .inr rfl) ?_
      simp (config := { maxSteps := 1000000 }) +decide only [NoH, Old, OldL, nilQ, nilA, asgn, nz, RechL, ReY, isNew, stepO, XPost, postN, XOk, updN, updU, isEff, avalue, aeff, ASt.eval, ASt.put, ASt.set, ASt.new, Nat.reduceDiv, Nat.reduceAdd, Int.reduceToNat, absV, absC, scalar, alen, acap, conc, flats, live, blkOf, aload, rd, part?, afieldAddr, afield, aindexAddr, cellsOf, afill, places, abuild, optI, asliceV, asliceS, szOk, srcCells, aappend, acopy, astore, amakeSlice, abuildSlice, snapL, mapO, treeL, AVal.tree, AVal.flatT, isFlat, ares, isFz, afroz, afrozB, lookupA, lookupH, tops, if_true, if_false, reduceCtorEq, forall_const, ite_true, ite_false, implies_true, walkS, tabS, Tryd.results64, wk, tk, h8, sn, List.replicate_succ, List.flatten_cons, List.flatten_nil]
      refine ⟨⟨(L ++ [f P[L.length]], G, G + 1), by show (L ++ [_]).length ≤ n; simp; omega⟩, ?_, by show n - (L ++ [_]).length < n - L.length; simp; omega⟩
      refine weak_mk rfl (by first | exact Nat.le_refl _ | (simp only [mk_gen]; omega)) ?_ ?_ <;> simp +decide only [w_lookup_nil, w_lookup_cons, ch_ch, ch_lit, lit_ch, wkT, wkH, wkB, WVL, WV_refl', Int.natCast_zero, Int.natCast_add, Int.natCast_one, Nat.sub_self, Nat.sub_zero, List.replicate_zero, List.take_zero, List.nil_append, List.append_nil, fillC_zero, Nat.reduceDiv, Nat.reduceAdd, upd_bk, bk_at, getB_zero, getB_succ, modB_zero, modB_succ, rows_lit, repB_zero, repB_succ, List.length_cons, List.length_nil, upd_upd_same, upd_apply, mk_tmp, mk_heap, mk_gen, lookupA, lookupH, List.getD_cons_zero, List.getD_cons_succ, init_two, tops, Bool.true_and, and_self, and_true, true_and, true_or, if_true, if_false, ite_true, ite_false, reduceCtorEq, reduceIte, List.length_append, List.length_cons, List.length_nil, Nat.zero_add]
    have en : L.length = n := by omega
    have gf : g P[L.length] = false := by simp only [en]; exact gn
    rw [gf] at dL
    simp (config := { maxSteps := 1000000 }) +decide only [NoH, Old, OldL, nilQ, nilA, asgn, nz, RechL, ReY, isNew, stepO, XPost, postN, XOk, updN, updU, isEff, avalue, aeff, ASt.eval, ASt.put, ASt.set, ASt.new, Nat.reduceDiv, Nat.reduceAdd, Int.reduceToNat, absV, absC, scalar, alen, acap, conc, flats, live, blkOf, aload, rd, part?, afieldAddr, afield, aindexAddr, cellsOf, afill, places, abuild, optI, asliceV, asliceS, szOk, srcCells, aappend, acopy, astore, amakeSlice, abuildSlice, snapL, mapO, treeL, AVal.tree, AVal.flatT, isFlat, ares, isFz, afroz, afrozB, lookupA, lookupH, tops, if_true, if_false, reduceCtorEq, forall_const, ite_true, ite_false, implies_true, walkS, tabS, Tryd.results64, eq_true hltI, hlt, gtL, gl]
    refine callK (dL) (by first | exact .inl rfl | exact .inr rfl) ?_
    simp (config := { maxSteps := 1000000 }) +decide only [NoH, Old, OldL, nilQ, nilA, asgn, nz, RechL, ReY, isNew, stepO, XPost, postN, XOk, updN, updU, isEff, avalue, aeff, ASt.eval, ASt.put, ASt.set, ASt.new, Nat.reduceDiv, Nat.reduceAdd, Int.reduceToNat, absV, absC, scalar, alen, acap, conc, flats, live, blkOf, aload, rd, part?, afieldAddr, afield, aindexAddr, cellsOf, afill, places, abuild, optI, asliceV, asliceS, szOk, srcCells, aappend, acopy, astore, amakeSlice, abuildSlice, snapL, mapO, treeL, AVal.tree, AVal.flatT, isFlat, ares, isFz, afroz, afrozB, lookupA, lookupH, tops, if_true, if_false, reduceCtorEq, forall_const, ite_true, ite_false, implies_true, walkS, tabS, Tryd.results64]
  have all : ∀ i (hi : i < P.length), g P[i] = true := fun i hi => by
    cases hg : g P[i] with
    | true => rfl
    | false => exact absurd ⟨i, hi, fun _ => hg⟩ hA
  obtain ⟨T2, _, dT⟩ := ex_ListText (P.map f) (by simp; omega)
  have lm : (P.map f).length = P.length := by simp
  have fin : ∀ (xs : List Int) (b : Bool), (T2 = T → xs = P.map f ∧ b = true) → (T2 ≠ T → xs = [] ∧ b = false) → Den Tryd.prog 64 [.t T] (.tup [ints xs, .b b]) := fun xs b y1 y2 => by
    refine den_of_awpG (ghs [] [27]) Tryd.func64 rfl (by kernel_rfl) (Nat.le_of_ble_eq_true rfl) (by simp only [treeL, AVal.tree, treeL_i, treeL_ints, treeL_u8, treeL_append, Bool.and_self, Bool.and_true, Bool.true_and]) (by first | rfl | simp only [treeL, AVal.tree, treeL_i, treeL_ints, treeL_u8, treeL_append, Bool.and_self, Bool.and_true, Bool.true_and]) mixed (by kernel_rfl) fun hl => ?_
    simp only [lensL, lens, lensL_i, lensL_mapC, maxI, and_true, true_and] at hl
    rw [Tryd.ntmps64]
    refine ex_start ?_
    simp (config := { maxSteps := 1000000 }) +decide only [NoH, Old, OldL, nilQ, nilA, asgn, nz, RechL, ReY, isNew, stepO, XPost, postN, XOk, updN, updU, isEff, avalue, aeff, ASt.eval, ASt.put, ASt.set, ASt.new, Nat.reduceDiv, Nat.reduceAdd, Int.reduceToNat, absV, absC, scalar, alen, acap, conc, flats, live, blkOf, aload, rd, part?, afieldAddr, afield, aindexAddr, cellsOf, afill, places, abuild, optI, asliceV, asliceS, szOk, srcCells, aappend, acopy, astore, amakeSlice, abuildSlice, snapL, mapO, treeL, AVal.tree, AVal.flatT, isFlat, ares, isFz, afroz, afrozB, lookupA, lookupH, tops, if_true, if_false, reduceCtorEq, forall_const, ite_true, ite_false, implies_true, walkS, tabS, Tryd.results64, sem_eqlT, eq_false h0]
    refine callK (hs) (by first | exact .inl rfl | exact .inr rfl) ?_
    simp (config := { maxSteps := 1000000 }) +decide only [NoH, Old, OldL, nilQ, nilA, asgn, nz, RechL, ReY, isNew, stepO, XPost, postN, XOk, updN, updU, isEff, avalue, aeff, ASt.eval, ASt.put, ASt.set, ASt.new, Nat.reduceDiv, Nat.reduceAdd, Int.reduceToNat, absV, absC, scalar, alen, acap, conc, flats, live, blkOf, aload, rd, part?, afieldAddr, afield, aindexAddr, cellsOf, afill, places, abuild, optI, asliceV, asliceS, szOk, srcCells, aappend, acopy, astore, amakeSlice, abuildSlice, snapL, mapO, treeL, AVal.tree, AVal.flatT, isFlat, ares, isFz, afroz, afrozB, lookupA, lookupH, tops, if_true, if_false, reduceCtorEq, forall_const, ite_true, ite_false, implies_true, walkS, tabS, Tryd.results64]
    refine ex_loop (fun p : {p : List Int × Nat × Nat // p.1.length ≤ P.length ∧ p.1 = (P.map f).take p.1.length} => mkG (ghs [] [27]) [(0, .t T), (4, .own 28 p.1.2.1 0 p.1.1.length), (12, strs P), (13, .i P.length), (14, .i p.1.1.length)] [(28, ⟨p.1.2.1, 1, mapC AVal.i p.1.1⟩)] p.1.2.2 35) (fun p => P.length - p.1.1.length) ⟨([], 0, 1), Nat.zero_le _, by simp⟩ ?_ ?_
    · refine weak_mk rfl (by first | exact Nat.le_refl _ | (simp only [mk_gen]; omega)) ?_ ?_ <;> simp +decide only [w_lookup_nil, w_lookup_cons, ch_ch, ch_lit, lit_ch, wkT, wkH, wkB, WVL, WV_refl', Int.natCast_zero, Int.natCast_add, Int.natCast_one, Nat.sub_self, Nat.sub_zero, List.replicate_zero, List.take_zero, List.nil_append, List.append_nil, fillC_zero, Nat.reduceDiv, Nat.reduceAdd, upd_bk, bk_at, getB_zero, getB_succ, modB_zero, modB_succ, rows_lit, repB_zero, repB_succ, List.length_cons, List.length_nil, upd_upd_same, upd_apply, mk_tmp, mk_heap, mk_gen, lookupA, lookupH, List.getD_cons_zero, List.getD_cons_succ, init_two, tops, Bool.true_and, and_self, and_true, true_and, true_or, if_true, if_false, ite_true, ite_false, reduceCtorEq, reduceIte, mapC_nil, List.length_nil]
      exact WV_nl rfl rfl rfl rfl
    rintro ⟨⟨L, g1, G⟩, j1, j2⟩
    have j1' : L.length ≤ P.length := j1
    have j2' : L = (P.map f).take L.length := j2
    have tk : L.take L.length = L := List.take_length
    by_cases hlt : L.length < P.length
    · have hltI : (L.length : Int) < (P.length : Int) := by omega
      have gtL := gt L.length hlt
      have dL := dP L.length hlt
      rw [all L.length hlt] at dL
      have wk : IntKind.i64.wrap ((L.length : Int) + 1) = ((L.length + 1 : Nat) : Int) := wrap64 (by omega) (by omega)
      have h8 : (L.length + 1) * 8 ≤ 140737488355328 := by omega
      have sn : mapC AVal.i L ++ [AVal.i (f P[L.length])] = mapC AVal.i (L ++ [f P[L.length]]) := mapC_snoc ..
      have e2 : L ++ [f P[L.length]] = (P.map f).take (L.length + 1) := by
        rw [List.take_succ_eq_append_getElem (by rw [lm]; exact hlt), ← j2', List.getElem_map]
      simp (config := { maxSteps := 1000000 }) +decide only [NoH, Old, OldL, nilQ, nilA, asgn, nz, RechL, ReY, isNew, stepO, XPost, postN, XOk, updN, updU, isEff, avalue, aeff, ASt.eval, ASt.put, ASt.set, ASt.new, Nat.reduceDiv, Nat.reduceAdd, Int.reduceToNat, absV, absC, scalar, alen, acap, conc, flats, live, blkOf, aload, rd, part?, afieldAddr, afield, aindexAddr, cellsOf, afill, places, abuild, optI, asliceV, asliceS, szOk, srcCells, aappend, acopy, astore, amakeSlice, abuildSlice, snapL, mapO, treeL, AVal.tree, AVal.flatT, isFlat, ares, isFz, afroz, afrozB, lookupA, lookupH, tops, if_true, if_false, reduceCtorEq, forall_const, ite_true, ite_false, implies_true, walkS, tabS, Tryd.results64, eq_true hltI, hlt, gtL, gl]
      refine callK (dL) (by first | exact .inl rfl | exact .inr rfl) ?_
      simp (config := { maxSteps := 1000000 }) +decide only [NoH, Old, OldL, nilQ, nilA, asgn, nz, RechL, ReY, isNew, stepO, XPost, postN, XOk, updN, updU, isEff, avalue, aeff, ASt.eval, ASt.put, ASt.set, ASt.new, Nat.reduceDiv, Nat.reduceAdd, Int.reduceToNat, absV, absC, scalar, alen, acap, conc, flats, live, blkOf, aload, rd, part?, afieldAddr, afield, aindexAddr, cellsOf, afill, places, abuild, optI, asliceV, asliceS, szOk, srcCells, aappend, acopy, astore, amakeSlice, abuildSlice, snapL, mapO, treeL, AVal.tree, AVal.flatT, isFlat, ares, isFz, afroz, afrozB, lookupA, lookupH, tops, if_true, if_false, reduceCtorEq, forall_const, ite_true, ite_false, implies_true, walkS, tabS, Tryd.results64, wk, tk, h8, sn, List.replicate_succ, List.flatten_cons, List.flatten_nil]
      refine ⟨⟨(L ++ [f P[L.length]], G, G + 1), by show (L ++ [_]).length ≤ P.length; simp; omega, by simp only [List.length_append, List.length_singleton]; exact e2⟩, ?_, by show P.length - (L ++ [_]).length < P.length - L.length; simp; omega⟩
      refine weak_mk rfl (by first | exact Nat.le_refl _ | (simp only [mk_gen]; omega)) ?_ ?_ <;> simp +decide only [w_lookup_nil, w_lookup_cons, ch_ch, ch_lit, lit_ch, wkT, wkH, wkB, WVL, WV_refl', Int.natCast_zero, Int.natCast_add, Int.natCast_one, Nat.sub_self, Nat.sub_zero, List.replicate_zero, List.take_zero, List.nil_append, List.append_nil, fillC_zero, Nat.reduceDiv, Nat.reduceAdd, upd_bk, bk_at, getB_zero, getB_succ, modB_zero, modB_succ, rows_lit, repB_zero, repB_succ, List.length_cons, List.length_nil, upd_upd_same, upd_apply, mk_tmp, mk_heap, mk_gen, lookupA, lookupH, List.getD_cons_zero, List.getD_cons_succ, init_two, tops, Bool.true_and, and_self, and_true, true_and, true_or, if_true, if_false, ite_true, ite_false, reduceCtorEq, reduceIte, List.length_append, List.length_cons, List.length_nil, Nat.zero_add]
    have hltI : ¬ (L.length : Int) < (P.length : Int) := by omega
    have eL : L = P.map f := by rw [j2']; exact List.take_of_length_le (by rw [lm]; omega)
    rw [← eL] at dT y1
    simp (config := { maxSteps := 1000000 }) +decide only [NoH, Old, OldL, nilQ, nilA, asgn, nz, RechL, ReY, isNew, stepO, XPost, postN, XOk, updN, updU, isEff, avalue, aeff, ASt.eval, ASt.put, ASt.set, ASt.new, Nat.reduceDiv, Nat.reduceAdd, Int.reduceToNat, absV, absC, scalar, alen, acap, conc, flats, live, blkOf, aload, rd, part?, afieldAddr, afield, aindexAddr, cellsOf, afill, places, abuild, optI, asliceV, asliceS, szOk, srcCells, aappend, acopy, astore, amakeSlice, abuildSlice, snapL, mapO, treeL, AVal.tree, AVal.flatT, isFlat, ares, isFz, afroz, afrozB, lookupA, lookupH, tops, if_true, if_false, reduceCtorEq, forall_const, ite_true, ite_false, implies_true, walkS, tabS, Tryd.results64, eq_false hltI, tk]
    refine callK (dT) (by first | exact .inl rfl | exact .inr rfl) ?_
    by_cases hE : T2 = T
    · obtain ⟨rfl, rfl⟩ := y1 hE
      simp (config := { maxSteps := 1000000 }) +decide only [NoH, Old, OldL, nilQ, nilA, asgn, nz, RechL, ReY, isNew, stepO, XPost, postN, XOk, updN, updU, isEff, avalue, aeff, ASt.eval, ASt.put, ASt.set, ASt.new, Nat.reduceDiv, Nat.reduceAdd, Int.reduceToNat, absV, absC, scalar, alen, acap, conc, flats, live, blkOf, aload, rd, part?, afieldAddr, afield, aindexAddr, cellsOf, afill, places, abuild, optI, asliceV, asliceS, szOk, srcCells, aappend, acopy, astore, amakeSlice, abuildSlice, snapL, mapO, treeL, AVal.tree, AVal.flatT, isFlat, ares, isFz, afroz, afrozB, lookupA, lookupH, tops, if_true, if_false, reduceCtorEq, forall_const, ite_true, ite_false, implies_true, walkS, tabS, Tryd.results64, sem_neqT, eq_true hE, tk]
    · obtain ⟨rfl, rfl⟩ := y2 hE
      simp (config := { maxSteps := 1000000 }) +decide only [NoH, Old, OldL, nilQ, nilA, asgn, nz, RechL, ReY, isNew, stepO, XPost, postN, XOk, updN, updU, isEff, avalue, aeff, ASt.eval, ASt.put, ASt.set, ASt.new, Nat.reduceDiv, Nat.reduceAdd, Int.reduceToNat, absV, absC, scalar, alen, acap, conc, flats, live, blkOf, aload, rd, part?, afieldAddr, afield, aindexAddr, cellsOf, afill, places, abuild, optI, asliceV, asliceS, szOk, srcCells, aappend, acopy, astore, amakeSlice, abuildSlice, snapL, mapO, treeL, AVal.tree, AVal.flatT, isFlat, ares, isFz, afroz, afrozB, lookupA, lookupH, tops, if_true, if_false, reduceCtorEq, forall_const, ite_true, ite_false, implies_true, walkS, tabS, Tryd.results64, sem_neqT, eq_false hE]
  by_cases hE : T2 = T
  · exact ⟨P.map f, true, by simp; omega, fin _ _ (fun _ => ⟨rfl, rfl⟩) (fun k => absurd hE k)⟩
  · exact ⟨[], false, by simp, fin _ _ (fun k => absurd k hE) (fun _ => ⟨rfl, rfl⟩)⟩
theorem list_fun : ∃ (f : List UInt8 → List Int) (g : List UInt8 → Bool), (∀ T, (f T).length ≤ 65) ∧ ∀ T, T.length ≤ 1100000 → Den Tryd.prog 64 [.t T] (.tup [ints (f T), .b (g T)]) := by
  have h : ∀ T : List UInt8, ∃ p : List Int × Bool, p.1.length ≤ 65 ∧ (T.length ≤ 1100000 → Den Tryd.prog 64 [.t T] (.tup [ints p.1, .b p.2])) := fun T => by
    by_cases hT : T.length ≤ 1100000
    · obtain ⟨n, b, l, d⟩ := ex_ReadList T hT
      exact ⟨(n, b), l, fun _ => d⟩
    · exact ⟨([], false), by simp, fun k => absurd k hT⟩
  obtain ⟨f, hf⟩ := Classical.axiomOfChoice h
  exact ⟨fun T => (f T).1, fun T => (f T).2, fun T => (hf T).1, fun T => (hf T).2⟩
theorem den_SplitG (a : List UInt8) (c : UInt8) (h : a.length < 4294967281) : Den Tryd.prog 61 [.t a, .t [c]] (strs (Lib.splitK [c] 0 (Lib.count a [c]) a)) := by
  refine ⟨⟨_, Tryd.func61, by kernel_rfl, by kernel_rfl⟩, tree_strs _, fun w vs ok hok hg hr => ?_⟩
  obtain ⟨v, r, rfl, hv, v2, r2, rfl, hv2, rfl⟩ := hr
  obtain rfl := repS hv
  obtain rfl := repS hv2
  obtain ⟨m, hm⟩ := mem_maxLen hg
  refine Calls.mono (Any.strings_Split { Tryd.split with } Tryd.split.i9 (bt a) (bt [c]) m w (by rw [bt_size]; exact h) hm (by rw [bt_size]; exact Nat.le_refl 1)) ?_
  rintro e w' ⟨rfl, rfl⟩
  have hcB : Lib.countB (bt a) (bt [c]) = Lib.count a [c] := by
    show Lib.count _ _ = _
    rw [bt_data, bt_data]
  have hlen := (splitK_in (sep := [c]) (Lib.count a [c]) a).1
  have hle := Lib.countB_le (bt [c]) (by rw [bt_size]; exact Nat.le_refl 1) (bt a).size (bt a) (Nat.le_refl _)
  rw [hcB, bt_size] at hle
  have hall := Lib.splitB_all (bt [c]) (by rw [bt_size]; exact Nat.le_refl 1) 0 _ (bt a) rfl
  rw [splitB_bt, hcB] at hall ⊢
  generalize Lib.splitK [c] 0 (Lib.count a [c]) a = P at *
  have hP : P.length = Lib.count a [c] + 1 := by simpa using hall
  rw [← hP]
  refine ⟨_, rfl, ⟨_, _, rfl, Nat.le_refl _, by show _ ≤ (9223372036854775807 : Nat); omega, .inr ⟨_, _, rfl, .inr ⟨Nat.le_refl _, by show _ < (w.heap.push _).size; rw [Array.size_push]; exact Nat.lt_succ_self _⟩, repC_strs fun j hj => ?_⟩⟩, ?_⟩
  · show World.cell? _ _ = _
    unfold World.cell?
    simp only [treeEnv]
    rw [show ∀ o, (w.alloc o).heap = w.heap.push o from fun _ => rfl, Array.getElem?_push_size]
    simp only [Nat.zero_add, Option.isSome_none, Bool.false_eq_true, if_false]
    rw [List.getElem?_toArray]
    simp [hj]
  · exact (Below.refl _ w).alloc (Nat.le_refl _) _
end Go.Proofs.YtiaemddmkmfijaaDoor
