/-
  For every input the law FnRain returns true: the tables read as listed.
-/
import Derived.Test.YtfdcbmjhoaehlaaDoorDbQ
import Derived.Test.YtfdcbmjhoaehlaaDoorOwnV
import Derived.Test.YtfdcbmjhoaehlaaDoorLawBase
import Derived.Test.YtfdcbmjhoaehlaaDoorCards
import Derived.Test.YtfdcbmjhoaehlaaDoorTie
namespace Go.Proofs.YtfdcbmjhoaehlaaDoor
open Go Go.Own Go.Proofs Go.ChangeShapes Go.WideShapes Go.ChangeAt Go.RowKit
set_option maxHeartbeats 4000000
set_option maxRecDepth 20000
set_option linter.unusedSimpArgs false
set_option linter.unusedVariables false
theorem semv_bind (P : Program) {α β : Type} (x : Sem α) (f : α → Sem β) : semv P (x >>= f) = (semv P x).bind fun a => semv P (f a) := by
  show semv P (Sem.bind x f) = _
  induction x with
  | pure a => rfl
  | program k ih => exact ih P
  | _ => rfl
theorem sem_losNeq (x y : Operand) (a b c d e : Int) : semS Tryd.prog (do eqGuard .neq 28 x y (.agg #[.int .i64 a, .int .i64 b, .int .i64 c, .int .i64 d, .int .i64 e]) (.agg #[.int .i64 a, .int .i64 b, .int .i64 c, .int .i64 d, .int .i64 e]); binOp .neq 28 (.agg #[.int .i64 a, .int .i64 b, .int .i64 c, .int .i64 d, .int .i64 e]) (.agg #[.int .i64 a, .int .i64 b, .int .i64 c, .int .i64 d, .int .i64 e])) = some (.flat (.bool false)) := by
  have hg : semv Tryd.prog (eqGuard .neq 28 x y (.agg #[.int .i64 a, .int .i64 b, .int .i64 c, .int .i64 d, .int .i64 e]) (.agg #[.int .i64 a, .int .i64 b, .int .i64 c, .int .i64 d, .int .i64 e])) = some () := by kernel_rfl
  have hb : binOp .neq 28 (.agg #[.int .i64 a, .int .i64 b, .int .i64 c, .int .i64 d, .int .i64 e]) (.agg #[.int .i64 a, .int .i64 b, .int .i64 c, .int .i64 d, .int .i64 e]) = (do pure (.bool (!(← Op.equal 28 (.agg #[.int .i64 a, .int .i64 b, .int .i64 c, .int .i64 d, .int .i64 e]) (.agg #[.int .i64 a, .int .i64 b, .int .i64 c, .int .i64 d, .int .i64 e]))))) := rfl
  have hE : semv Tryd.prog (Op.equal 28 (.agg #[.int .i64 a, .int .i64 b, .int .i64 c, .int .i64 d, .int .i64 e]) (.agg #[.int .i64 a, .int .i64 b, .int .i64 c, .int .i64 d, .int .i64 e])) = some true := by
    have hi : ∀ a : Int, semv Tryd.prog (Op.equalIn 9999 2 (.int .i64 a) (.int .i64 a)) = some (a == a) := fun a => rfl
    have p0 : ∀ a b c d e : Int, semv Tryd.prog (part 2 #[.int .i64 a, .int .i64 b, .int .i64 c, .int .i64 d, .int .i64 e] 0) = some (.int .i64 a) := fun _ _ _ _ _ => rfl
    have p1 : ∀ a b c d e : Int, semv Tryd.prog (part 2 #[.int .i64 a, .int .i64 b, .int .i64 c, .int .i64 d, .int .i64 e] 1) = some (.int .i64 b) := fun _ _ _ _ _ => rfl
    have p2 : ∀ a b c d e : Int, semv Tryd.prog (part 2 #[.int .i64 a, .int .i64 b, .int .i64 c, .int .i64 d, .int .i64 e] 2) = some (.int .i64 c) := fun _ _ _ _ _ => rfl
    have p3 : ∀ a b c d e : Int, semv Tryd.prog (part 2 #[.int .i64 a, .int .i64 b, .int .i64 c, .int .i64 d, .int .i64 e] 3) = some (.int .i64 d) := fun _ _ _ _ _ => rfl
    have p4 : ∀ a b c d e : Int, semv Tryd.prog (part 2 #[.int .i64 a, .int .i64 b, .int .i64 c, .int .i64 d, .int .i64 e] 4) = some (.int .i64 e) := fun _ _ _ _ _ => rfl
    show semv _ (Op.equalIn (9999 + 1) _ _ _) = _
    obtain ⟨f0, f1, f2, f3, f4, hu, hs, ⟨n0, t0, o0⟩, ⟨n1, t1, o1⟩, ⟨n2, t2, o2⟩, ⟨n3, t3, o3⟩, n4, t4, o4⟩ : ∃ f0 f1 f2 f3 f4 : Field, semv Tryd.prog (underlying 28) = some (.struct #[f0, f1, f2, f3, f4]) ∧ Tryd.prog.stoodInHeld 28 = false ∧ (f0.name ≠ "_" ∧ f0.type = 2 ∧ f0.offset = 0) ∧ (f1.name ≠ "_" ∧ f1.type = 2 ∧ f1.offset = 1) ∧ (f2.name ≠ "_" ∧ f2.type = 2 ∧ f2.offset = 2) ∧ (f3.name ≠ "_" ∧ f3.type = 2 ∧ f3.offset = 3) ∧ f4.name ≠ "_" ∧ f4.type = 2 ∧ f4.offset = 4 := ⟨_, _, _, _, _, rfl, by kernel_rfl, ⟨by decide, rfl, rfl⟩, ⟨by decide, rfl, rfl⟩, ⟨by decide, rfl, rfl⟩, ⟨by decide, rfl, rfl⟩, by decide, rfl, rfl⟩
    have hp : semv Tryd.prog program = some Tryd.prog := rfl
    unfold Op.equalIn
    simp only [semv_bind, hu, hp, Option.bind_some, hs]
    rw [if_neg (by decide)]
    have sp : ∀ {α : Type} (a : α), semv Tryd.prog (pure a) = some a := fun _ => rfl
    simp [semv_bind, ← Array.forIn_toList, List.forIn_cons, List.forIn_nil, n0, n1, n2, n3, n4, t0, t1, t2, t3, t4, o0, o1, o2, o3, o4, p0, p1, p2, p3, p4, hi, sp]
  unfold semS
  rw [semv_bind, hg, Option.bind_some, hb, semv_bind, hE]
  rfl
theorem den_b10At {bs : List Int} (hb : Byt bs) (k : Nat) (n : Int) (hk : k < 1000) (hn : 2 ≤ n ∧ n ≤ 1000000) : ∃ v, (0 ≤ v ∧ v < n) ∧ Den Tryd.prog 10 [bytesV bs, .i k, .i n] (.i v) := by
  by_cases h2 : k < bs.length
  · have hbk := hb.lo bs[k] (List.getElem_mem h2)
    have hw : IntKind.i64.wrap bs[k] = bs[k] := wrap64 (by omega) (by omega)
    refine ⟨bs[k].tmod n, ⟨Int.tmod_nonneg _ hbk.1, Int.tmod_lt_of_pos _ (by omega)⟩, ?_⟩
    refine den_of_awp Tryd.func10 rfl (by kernel_rfl) (Nat.le_of_ble_eq_true rfl) (by simp only [treeL, AVal.tree, treeL_i, treeL_ints, treeL_u8, treeL_append, Bool.and_self, Bool.and_true, Bool.true_and]) (by first | rfl | simp only [treeL, AVal.tree, treeL_i, treeL_ints, treeL_u8, treeL_append, Bool.and_self, Bool.and_true, Bool.true_and]) mixed (by kernel_rfl) fun hl => ?_
    simp only [lensL, lens, lensL_i, lensL_mapC, maxI, and_true, true_and] at hl
    rw [Tryd.ntmps10]
    refine ex_start ?_
    have hkI : (k : Int) < (bs.length : Int) := by omega
    have hn1 : ¬ n ≤ 1 := by omega
    have hn0 : n ≠ 0 := by omega
    have c8 : semS Tryd.prog (convert 5 2 (.int .u8 bs[k])) = some (.flat (.int .i64 (IntKind.i64.wrap bs[k]))) := sem_conv _ _ (by kernel_rfl) (by kernel_rfl)
    simp (config := { maxSteps := 1000000 }) +decide only [NoH, Old, OldL, nilQ, nilA, RechL, ReY, isNew, stepO, XPost, postN, XOk, updN, updU, isEff, avalue, aeff, ASt.eval, ASt.put, ASt.set, ASt.new, Nat.reduceDiv, Nat.reduceAdd, Int.reduceToNat, absV, absC, scalar, alen, acap, conc, flats, live, blkOf, aload, rd, part?, afieldAddr, afield, aindexAddr, cellsOf, afill, places, abuild, optI, asliceV, asliceS, szOk, srcCells, aappend, astore, amakeSlice, abuildSlice, snapL, mapO, treeL, AVal.tree, AVal.flatT, isFlat, ares, isFz, afroz, afrozB, lookupA, lookupH, tops, if_true, if_false, reduceCtorEq, forall_const, ite_true, ite_false, implies_true, walkS, tabS, Tryd.results10, hn1, hkI, h2, hw, hn0, c8, sem_rem]
  · have hw1 : IntKind.i64.wrap ((k : Int) * 37) = (k : Int) * 37 := wrap64 (by omega) (by omega)
    have hw2 : IntKind.i64.wrap ((k : Int) * 37 + 11) = (k : Int) * 37 + 11 := wrap64 (by omega) (by omega)
    refine ⟨((k : Int) * 37 + 11).tmod n, ⟨Int.tmod_nonneg _ (by omega), Int.tmod_lt_of_pos _ (by omega)⟩, ?_⟩
    refine den_of_awp Tryd.func10 rfl (by kernel_rfl) (Nat.le_of_ble_eq_true rfl) (by simp only [treeL, AVal.tree, treeL_i, treeL_ints, treeL_u8, treeL_append, Bool.and_self, Bool.and_true, Bool.true_and]) (by first | rfl | simp only [treeL, AVal.tree, treeL_i, treeL_ints, treeL_u8, treeL_append, Bool.and_self, Bool.and_true, Bool.true_and]) mixed (by kernel_rfl) fun hl => ?_
    simp only [lensL, lens, lensL_i, lensL_mapC, maxI, and_true, true_and] at hl
    rw [Tryd.ntmps10]
    refine ex_start ?_
    have hkI : ¬ (k : Int) < (bs.length : Int) := by omega
    have hn1 : ¬ n ≤ 1 := by omega
    have hn0 : n ≠ 0 := by omega
    simp (config := { maxSteps := 1000000 }) +decide only [NoH, Old, OldL, nilQ, nilA, RechL, ReY, isNew, stepO, XPost, postN, XOk, updN, updU, isEff, avalue, aeff, ASt.eval, ASt.put, ASt.set, ASt.new, Nat.reduceDiv, Nat.reduceAdd, Int.reduceToNat, absV, absC, scalar, alen, acap, conc, flats, live, blkOf, aload, rd, part?, afieldAddr, afield, aindexAddr, cellsOf, afill, places, abuild, optI, asliceV, asliceS, szOk, srcCells, aappend, astore, amakeSlice, abuildSlice, snapL, mapO, treeL, AVal.tree, AVal.flatT, isFlat, ares, isFz, afroz, afrozB, lookupA, lookupH, tops, if_true, if_false, reduceCtorEq, forall_const, ite_true, ite_false, implies_true, walkS, tabS, Tryd.results10, hn1, hkI, h2, hw1, hw2, hn0, sem_rem]
theorem den_law (bs : List Int) (hb0 : ∀ x ∈ bs, 0 ≤ x ∧ x ≤ 255) (ms : List Int) (hm0 : ∀ x ∈ ms, 0 ≤ x ∧ x ≤ 255) : Den Tryd.prog 3 [bytesV bs, bytesV ms] (.b true) := by
  refine den_of_awpG (ghs [] [84, 91]) Tryd.func3 rfl (by kernel_rfl) (Nat.le_of_ble_eq_true rfl) (by simp only [treeL, AVal.tree, treeL_i, treeL_ints, treeL_u8, treeL_append, Bool.and_self, Bool.and_true, Bool.true_and]) (by first | rfl | simp only [treeL, AVal.tree, treeL_i, treeL_ints, treeL_u8, treeL_append, Bool.and_self, Bool.and_true, Bool.true_and]) mixed (by kernel_rfl) fun hl => ?_
  simp only [lensL, lens, lensL_i, lensL_mapC, maxI, and_true, true_and] at hl
  rw [Tryd.ntmps3]
  refine ex_start ?_
  simp (config := { maxSteps := 1000000 }) +decide only [NoH, Old, OldL, nilQ, nilA, RechL, ReY, isNew, stepO, XPost, postN, XOk, updN, updU, isEff, avalue, aeff, ASt.eval, ASt.put, ASt.set, ASt.new, Nat.reduceDiv, Nat.reduceAdd, Int.reduceToNat, absV, absC, scalar, alen, acap, conc, flats, live, blkOf, aload, rd, part?, afieldAddr, afield, aindexAddr, cellsOf, afill, places, abuild, optI, asliceV, asliceS, szOk, srcCells, aappend, astore, amakeSlice, abuildSlice, snapL, mapO, treeL, AVal.tree, AVal.flatT, isFlat, ares, isFz, afroz, afrozB, lookupA, lookupH, tops, if_true, if_false, reduceCtorEq, forall_const, ite_true, ite_false, implies_true, walkS, tabS, Tryd.results3]
  refine callK (den_b10LongF bs) (by first | exact .inl rfl | exact .inr rfl) ?_
  by_cases lb : 1048576 < bs.length
  · simp (config := { maxSteps := 1000000 }) +decide only [NoH, Old, OldL, nilQ, nilA, RechL, ReY, isNew, stepO, XPost, postN, XOk, updN, updU, isEff, avalue, aeff, ASt.eval, ASt.put, ASt.set, ASt.new, Nat.reduceDiv, Nat.reduceAdd, Int.reduceToNat, absV, absC, scalar, alen, acap, conc, flats, live, blkOf, aload, rd, part?, afieldAddr, afield, aindexAddr, cellsOf, afill, places, abuild, optI, asliceV, asliceS, szOk, srcCells, aappend, astore, amakeSlice, abuildSlice, snapL, mapO, treeL, AVal.tree, AVal.flatT, isFlat, ares, isFz, afroz, afrozB, lookupA, lookupH, tops, if_true, if_false, reduceCtorEq, forall_const, ite_true, ite_false, implies_true, walkS, tabS, Tryd.results3, eq_true lb]
  by_cases lm : 1048576 < ms.length
  · simp (config := { maxSteps := 1000000 }) +decide only [NoH, Old, OldL, nilQ, nilA, RechL, ReY, isNew, stepO, XPost, postN, XOk, updN, updU, isEff, avalue, aeff, ASt.eval, ASt.put, ASt.set, ASt.new, Nat.reduceDiv, Nat.reduceAdd, Int.reduceToNat, absV, absC, scalar, alen, acap, conc, flats, live, blkOf, aload, rd, part?, afieldAddr, afield, aindexAddr, cellsOf, afill, places, abuild, optI, asliceV, asliceS, szOk, srcCells, aappend, astore, amakeSlice, abuildSlice, snapL, mapO, treeL, AVal.tree, AVal.flatT, isFlat, ares, isFz, afroz, afrozB, lookupA, lookupH, tops, if_true, if_false, reduceCtorEq, forall_const, ite_true, ite_false, implies_true, walkS, tabS, Tryd.results3, eq_false lb]
    refine callK (den_b10LongF ms) (by first | exact .inl rfl | exact .inr rfl) ?_
    simp (config := { maxSteps := 1000000 }) +decide only [NoH, Old, OldL, nilQ, nilA, RechL, ReY, isNew, stepO, XPost, postN, XOk, updN, updU, isEff, avalue, aeff, ASt.eval, ASt.put, ASt.set, ASt.new, Nat.reduceDiv, Nat.reduceAdd, Int.reduceToNat, absV, absC, scalar, alen, acap, conc, flats, live, blkOf, aload, rd, part?, afieldAddr, afield, aindexAddr, cellsOf, afill, places, abuild, optI, asliceV, asliceS, szOk, srcCells, aappend, astore, amakeSlice, abuildSlice, snapL, mapO, treeL, AVal.tree, AVal.flatT, isFlat, ares, isFz, afroz, afrozB, lookupA, lookupH, tops, if_true, if_false, reduceCtorEq, forall_const, ite_true, ite_false, implies_true, walkS, tabS, Tryd.results3, eq_true lm]
  simp (config := { maxSteps := 1000000 }) +decide only [NoH, Old, OldL, nilQ, nilA, RechL, ReY, isNew, stepO, XPost, postN, XOk, updN, updU, isEff, avalue, aeff, ASt.eval, ASt.put, ASt.set, ASt.new, Nat.reduceDiv, Nat.reduceAdd, Int.reduceToNat, absV, absC, scalar, alen, acap, conc, flats, live, blkOf, aload, rd, part?, afieldAddr, afield, aindexAddr, cellsOf, afill, places, abuild, optI, asliceV, asliceS, szOk, srcCells, aappend, astore, amakeSlice, abuildSlice, snapL, mapO, treeL, AVal.tree, AVal.flatT, isFlat, ares, isFz, afroz, afrozB, lookupA, lookupH, tops, if_true, if_false, reduceCtorEq, forall_const, ite_true, ite_false, implies_true, walkS, tabS, Tryd.results3, eq_false lb]
  refine callK (den_b10LongF ms) (by first | exact .inl rfl | exact .inr rfl) ?_
  simp (config := { maxSteps := 1000000 }) +decide only [NoH, Old, OldL, nilQ, nilA, RechL, ReY, isNew, stepO, XPost, postN, XOk, updN, updU, isEff, avalue, aeff, ASt.eval, ASt.put, ASt.set, ASt.new, Nat.reduceDiv, Nat.reduceAdd, Int.reduceToNat, absV, absC, scalar, alen, acap, conc, flats, live, blkOf, aload, rd, part?, afieldAddr, afield, aindexAddr, cellsOf, afill, places, abuild, optI, asliceV, asliceS, szOk, srcCells, aappend, astore, amakeSlice, abuildSlice, snapL, mapO, treeL, AVal.tree, AVal.flatT, isFlat, ares, isFz, afroz, afrozB, lookupA, lookupH, tops, if_true, if_false, reduceCtorEq, forall_const, ite_true, ite_false, implies_true, walkS, tabS, Tryd.results3, eq_false lm]
  have hb : Byt bs := ⟨hb0, by omega⟩
  have hm : Byt ms := ⟨hm0, by omega⟩
  refine callY (deny_DrawLossesOf hb) (by simp (config := { maxSteps := 1000000 }) +decide only [NoH, Old, OldL, nilQ, nilA, RechL, ReY, isNew, stepO, XPost, postN, XOk, updN, updU, isEff, avalue, aeff, ASt.eval, ASt.put, ASt.set, ASt.new, Nat.reduceDiv, Nat.reduceAdd, Int.reduceToNat, absV, absC, scalar, alen, acap, conc, flats, live, blkOf, aload, rd, part?, afieldAddr, afield, aindexAddr, cellsOf, afill, places, abuild, optI, asliceV, asliceS, szOk, srcCells, aappend, astore, amakeSlice, abuildSlice, snapL, mapO, treeL, AVal.tree, AVal.flatT, isFlat, ares, isFz, afroz, afrozB, lookupA, lookupH, tops, if_true, if_false, reduceCtorEq, forall_const, ite_true, ite_false, implies_true, walkS, tabS, Tryd.results3]) (fun i hi => by simp (config := { maxSteps := 1000000 }) +decide only [NoH, Old, OldL, nilQ, nilA, RechL, ReY, isNew, stepO, XPost, postN, XOk, updN, updU, isEff, avalue, aeff, ASt.eval, ASt.put, ASt.set, ASt.new, Nat.reduceDiv, Nat.reduceAdd, Int.reduceToNat, absV, absC, scalar, alen, acap, conc, flats, live, blkOf, aload, rd, part?, afieldAddr, afield, aindexAddr, cellsOf, afill, places, abuild, optI, asliceV, asliceS, szOk, srcCells, aappend, astore, amakeSlice, abuildSlice, snapL, mapO, treeL, AVal.tree, AVal.flatT, isFlat, ares, isFz, afroz, afrozB, lookupA, lookupH, tops, if_true, if_false, reduceCtorEq, forall_const, ite_true, ite_false, implies_true, walkS, tabS, Tryd.results3]) ?_
  rintro ⟨⟨f, d, n⟩, cs, av⟩ e0
  clear e0
  simp (config := { maxSteps := 1000000 }) +decide only [NoH, Old, OldL, nilQ, nilA, RechL, ReY, isNew, stepO, XPost, postN, XOk, updN, updU, isEff, avalue, aeff, ASt.eval, ASt.put, ASt.set, ASt.new, Nat.reduceDiv, Nat.reduceAdd, Int.reduceToNat, absV, absC, scalar, alen, acap, conc, flats, live, blkOf, aload, rd, part?, afieldAddr, afield, aindexAddr, cellsOf, afill, places, abuild, optI, asliceV, asliceS, szOk, srcCells, aappend, astore, amakeSlice, abuildSlice, snapL, mapO, treeL, AVal.tree, AVal.flatT, isFlat, ares, isFz, afroz, afrozB, lookupA, lookupH, tops, if_true, if_false, reduceCtorEq, forall_const, ite_true, ite_false, implies_true, walkS, tabS, Tryd.results3]
  by_cases hk : LosOk f d n cs av
  case neg =>
    obtain ⟨c, hc, k0⟩ := den_LossesOfNo f d n cs av hk
    refine callK (k0) (by first | exact .inl rfl | exact .inr rfl) ?_
    simp (config := { maxSteps := 1000000 }) +decide only [NoH, Old, OldL, nilQ, nilA, RechL, ReY, isNew, stepO, XPost, postN, XOk, updN, updU, isEff, avalue, aeff, ASt.eval, ASt.put, ASt.set, ASt.new, Nat.reduceDiv, Nat.reduceAdd, Int.reduceToNat, absV, absC, scalar, alen, acap, conc, flats, live, blkOf, aload, rd, part?, afieldAddr, afield, aindexAddr, cellsOf, afill, places, abuild, optI, asliceV, asliceS, szOk, srcCells, aappend, astore, amakeSlice, abuildSlice, snapL, mapO, treeL, AVal.tree, AVal.flatT, isFlat, ares, isFz, afroz, afrozB, lookupA, lookupH, tops, if_true, if_false, reduceCtorEq, forall_const, ite_true, ite_false, implies_true, walkS, tabS, Tryd.results3, los0, eq_false hc]
  have k0 := den_LossesOf f d n cs av hk
  obtain ⟨⟨l1, l2⟩, ⟨hf, hd⟩, hi, hcs, hav⟩ := id hk
  have l1I : ((cs.length : Nat) : Int) = 2 := by omega
  have l2I : ((av.length : Nat) : Int) = 2 := by omega
  have g1 := cellD (L := cs) (j := 0) (by omega)
  have g2 := cellD (L := cs) (j := 1) (by omega)
  have g3 := cellD (L := av) (j := 0) (by omega)
  have g4 := cellD (L := av) (j := 1) (by omega)
  have m : ∀ {L : List Int} {j : Nat}, j < L.length → L.getD j 0 ∈ L := fun {L j} hj => by simp [List.getD, hj]
  have hc0 : ClsOk (cs.getD 0 0) := hcs _ (m (by omega))
  have hc1 : ClsOk (cs.getD 1 0) := hcs _ (m (by omega))
  have ha0 := hav _ (m (L := av) (j := 0) (by omega))
  have ha1 := hav _ (m (L := av) (j := 1) (by omega))
  have k1 := den_LossesOf f d n [cs.getD 1 0, cs.getD 0 0] [av.getD 1 0, av.getD 0 0] ⟨⟨rfl, rfl⟩, ⟨hf, hd⟩, hi, fun x hx => by
    simp only [List.mem_cons, List.not_mem_nil, or_false] at hx
    rcases hx with rfl | rfl
    · exact hc1
    · exact hc0, fun x hx => by
    simp only [List.mem_cons, List.not_mem_nil, or_false] at hx
    rcases hx with rfl | rfl
    · exact ha1
    · exact ha0⟩
  have eU : cuS f ([cs.getD 1 0, cs.getD 0 0].getD 0 0) ([cs.getD 1 0, cs.getD 0 0].getD 1 0) ([av.getD 1 0, av.getD 0 0].getD 0 0) ([av.getD 1 0, av.getD 0 0].getD 1 0) = cuS f (cs.getD 0 0) (cs.getD 1 0) (av.getD 0 0) (av.getD 1 0) := cuS_comm _ _ _ _ _
  rw [eU] at k1
  obtain ⟨u, hu⟩ : ∃ u, cuS f (cs.getD 0 0) (cs.getD 1 0) (av.getD 0 0) (av.getD 1 0) = u := ⟨_, rfl⟩
  rw [hu] at k0 k1
  refine callK (k0) (by first | exact .inl rfl | exact .inr rfl) ?_
  have q2 : ∀ a b : Int, ((List.replicate 2 (0 : Int)).set 0 a).set 1 b = [a, b] := fun _ _ => rfl
  simp (config := { maxSteps := 1000000 }) +decide only [NoH, Old, OldL, nilQ, nilA, RechL, ReY, isNew, stepO, XPost, postN, XOk, updN, updU, isEff, avalue, aeff, ASt.eval, ASt.put, ASt.set, ASt.new, Nat.reduceDiv, Nat.reduceAdd, Int.reduceToNat, absV, absC, scalar, alen, acap, conc, flats, live, blkOf, aload, rd, part?, afieldAddr, afield, aindexAddr, cellsOf, afill, places, abuild, optI, asliceV, asliceS, szOk, srcCells, aappend, astore, amakeSlice, abuildSlice, snapL, mapO, treeL, AVal.tree, AVal.flatT, isFlat, ares, isFz, afroz, afrozB, lookupA, lookupH, tops, if_true, if_false, reduceCtorEq, forall_const, ite_true, ite_false, implies_true, walkS, tabS, Tryd.results3, losV, l1I, l2I, l1, l2, g1, g2, g3, g4, List.length_set, List.length_replicate, q2]
  refine callK (k1) (by first | exact .inl rfl | exact .inr rfl) ?_
  simp (config := { maxSteps := 1000000 }) +decide only [NoH, Old, OldL, nilQ, nilA, RechL, ReY, isNew, stepO, XPost, postN, XOk, updN, updU, isEff, avalue, aeff, ASt.eval, ASt.put, ASt.set, ASt.new, Nat.reduceDiv, Nat.reduceAdd, Int.reduceToNat, absV, absC, scalar, alen, acap, conc, flats, live, blkOf, aload, rd, part?, afieldAddr, afield, aindexAddr, cellsOf, afill, places, abuild, optI, asliceV, asliceS, szOk, srcCells, aappend, astore, amakeSlice, abuildSlice, snapL, mapO, treeL, AVal.tree, AVal.flatT, isFlat, ares, isFz, afroz, afrozB, lookupA, lookupH, tops, if_true, if_false, reduceCtorEq, forall_const, ite_true, ite_false, implies_true, walkS, tabS, Tryd.results3, losV, sem_losNeq, totV]
  have cD : ∀ a, 0 ≤ a ∧ a ≤ 269 → Den Tryd.prog 8 [.i (cs.getD 0 0), .i f, .i a] (.tup [.i (cuV (cs.getD 0 0) f a), .i 0]) := fun a ha => den_ClutterLoss (cs.getD 0 0) f a hc0 hf ⟨ha.1, by omega⟩
  obtain ⟨⟨h1, h2⟩, _⟩ := T_in hc0
  obtain ⟨a, ⟨a1, a2⟩, ka⟩ := den_b10At hm 0 250 (by omega) (by omega)
  obtain ⟨b, ⟨b1, b2⟩, kb⟩ := den_b10At hm 1 20 (by omega) (by omega)
  have wab : IntKind.i64.wrap (a + b) = a + b := wrap64 (by omega) (by omega)
  have y1 : ¬ cuV (cs.getD 0 0) f a < cuV (cs.getD 0 0) f (a + b) := by
    have := cuV_mono (f := f) hc0 a1 (show a ≤ a + b by omega)
    omega
  have y2 : ¬ cuV (cs.getD 0 0) f a < 0 := by
    have := cuV_in (f := f) hc0 a1
    omega
  have y3 : vgV f a ≤ vgV f (a + b) := vgV_mono a1 (by omega) (by omega)
  have y4 : vgV f (a + b) ≤ 30000 := vgV_up f _ ⟨by omega, by omega⟩
  by_cases c1 : d < 283000
  case' pos =>
    obtain ⟨d1, d2⟩ := id hd
    have wd : IntKind.i64.wrap (d + 1) = d + 1 := wrap64 (by omega) (by omega)
    have k2 := den_LossesOf f (d + 1) n cs av ⟨⟨l1, l2⟩, ⟨hf, ⟨by omega, by omega⟩⟩, hi, hcs, hav⟩
    rw [hu] at k2
    have z1 : ¬ rlV f n (d + 1) < rlV f n d := by
      have := rlV_mono (f := f) hi d1 (show d ≤ d + 1 by omega) (by omega)
      omega
    have z2 : ¬ glV f (d + 1) < glV f d := by
      have := glV_mono (f := f) d1 (show d ≤ d + 1 by omega) (by omega)
      omega
    have z3 : ¬ flo f (d + 1) < flo f d := by
      have := flo_mono (f := f) d1 (show d ≤ d + 1 by omega)
      omega
    simp (config := { maxSteps := 1000000 }) +decide only [NoH, Old, OldL, nilQ, nilA, RechL, ReY, isNew, stepO, XPost, postN, XOk, updN, updU, isEff, avalue, aeff, ASt.eval, ASt.put, ASt.set, ASt.new, Nat.reduceDiv, Nat.reduceAdd, Int.reduceToNat, absV, absC, scalar, alen, acap, conc, flats, live, blkOf, aload, rd, part?, afieldAddr, afield, aindexAddr, cellsOf, afill, places, abuild, optI, asliceV, asliceS, szOk, srcCells, aappend, astore, amakeSlice, abuildSlice, snapL, mapO, treeL, AVal.tree, AVal.flatT, isFlat, ares, isFz, afroz, afrozB, lookupA, lookupH, tops, if_true, if_false, reduceCtorEq, forall_const, ite_true, ite_false, implies_true, walkS, tabS, Tryd.results3, eq_true c1, wd]
    refine callK (k2) (by first | exact .inl rfl | exact .inr rfl) ?_
    simp (config := { maxSteps := 1000000 }) +decide only [NoH, Old, OldL, nilQ, nilA, RechL, ReY, isNew, stepO, XPost, postN, XOk, updN, updU, isEff, avalue, aeff, ASt.eval, ASt.put, ASt.set, ASt.new, Nat.reduceDiv, Nat.reduceAdd, Int.reduceToNat, absV, absC, scalar, alen, acap, conc, flats, live, blkOf, aload, rd, part?, afieldAddr, afield, aindexAddr, cellsOf, afill, places, abuild, optI, asliceV, asliceS, szOk, srcCells, aappend, astore, amakeSlice, abuildSlice, snapL, mapO, treeL, AVal.tree, AVal.flatT, isFlat, ares, isFz, afroz, afrozB, lookupA, lookupH, tops, if_true, if_false, reduceCtorEq, forall_const, ite_true, ite_false, implies_true, walkS, tabS, Tryd.results3, losV, eq_false z1, eq_false z2, eq_false z3]
  case' neg =>
    simp (config := { maxSteps := 1000000 }) +decide only [NoH, Old, OldL, nilQ, nilA, RechL, ReY, isNew, stepO, XPost, postN, XOk, updN, updU, isEff, avalue, aeff, ASt.eval, ASt.put, ASt.set, ASt.new, Nat.reduceDiv, Nat.reduceAdd, Int.reduceToNat, absV, absC, scalar, alen, acap, conc, flats, live, blkOf, aload, rd, part?, afieldAddr, afield, aindexAddr, cellsOf, afill, places, abuild, optI, asliceV, asliceS, szOk, srcCells, aappend, astore, amakeSlice, abuildSlice, snapL, mapO, treeL, AVal.tree, AVal.flatT, isFlat, ares, isFz, afroz, afrozB, lookupA, lookupH, tops, if_true, if_false, reduceCtorEq, forall_const, ite_true, ite_false, implies_true, walkS, tabS, Tryd.results3, eq_false c1]
  all_goals
    by_cases c2 : n < 200
    case' pos =>
      have wn : IntKind.i64.wrap (n + 1) = n + 1 := wrap64 (by omega) (by omega)
      have z4 : ¬ rsV f (n + 1) < rsV f n := by
        have := rsV_mono (f := f) hi.1 (show n ≤ n + 1 by omega) (by omega)
        omega
      simp (config := { maxSteps := 1000000 }) +decide only [NoH, Old, OldL, nilQ, nilA, RechL, ReY, isNew, stepO, XPost, postN, XOk, updN, updU, isEff, avalue, aeff, ASt.eval, ASt.put, ASt.set, ASt.new, Nat.reduceDiv, Nat.reduceAdd, Int.reduceToNat, absV, absC, scalar, alen, acap, conc, flats, live, blkOf, aload, rd, part?, afieldAddr, afield, aindexAddr, cellsOf, afill, places, abuild, optI, asliceV, asliceS, szOk, srcCells, aappend, astore, amakeSlice, abuildSlice, snapL, mapO, treeL, AVal.tree, AVal.flatT, isFlat, ares, isFz, afroz, afrozB, lookupA, lookupH, tops, if_true, if_false, reduceCtorEq, forall_const, ite_true, ite_false, implies_true, walkS, tabS, Tryd.results3, eq_true c2]
      refine callK (den_RainSpecific f n hf hi) (by first | exact .inl rfl | exact .inr rfl) ?_
      simp (config := { maxSteps := 1000000 }) +decide only [NoH, Old, OldL, nilQ, nilA, RechL, ReY, isNew, stepO, XPost, postN, XOk, updN, updU, isEff, avalue, aeff, ASt.eval, ASt.put, ASt.set, ASt.new, Nat.reduceDiv, Nat.reduceAdd, Int.reduceToNat, absV, absC, scalar, alen, acap, conc, flats, live, blkOf, aload, rd, part?, afieldAddr, afield, aindexAddr, cellsOf, afill, places, abuild, optI, asliceV, asliceS, szOk, srcCells, aappend, astore, amakeSlice, abuildSlice, snapL, mapO, treeL, AVal.tree, AVal.flatT, isFlat, ares, isFz, afroz, afrozB, lookupA, lookupH, tops, if_true, if_false, reduceCtorEq, forall_const, ite_true, ite_false, implies_true, walkS, tabS, Tryd.results3, wn]
      refine callK (den_RainSpecific f (n + 1) hf ⟨by omega, by omega⟩) (by first | exact .inl rfl | exact .inr rfl) ?_
      simp (config := { maxSteps := 1000000 }) +decide only [NoH, Old, OldL, nilQ, nilA, RechL, ReY, isNew, stepO, XPost, postN, XOk, updN, updU, isEff, avalue, aeff, ASt.eval, ASt.put, ASt.set, ASt.new, Nat.reduceDiv, Nat.reduceAdd, Int.reduceToNat, absV, absC, scalar, alen, acap, conc, flats, live, blkOf, aload, rd, part?, afieldAddr, afield, aindexAddr, cellsOf, afill, places, abuild, optI, asliceV, asliceS, szOk, srcCells, aappend, astore, amakeSlice, abuildSlice, snapL, mapO, treeL, AVal.tree, AVal.flatT, isFlat, ares, isFz, afroz, afrozB, lookupA, lookupH, tops, if_true, if_false, reduceCtorEq, forall_const, ite_true, ite_false, implies_true, walkS, tabS, Tryd.results3, eq_false z4, l1, l1I, g1]
    case' neg =>
      simp (config := { maxSteps := 1000000 }) +decide only [NoH, Old, OldL, nilQ, nilA, RechL, ReY, isNew, stepO, XPost, postN, XOk, updN, updU, isEff, avalue, aeff, ASt.eval, ASt.put, ASt.set, ASt.new, Nat.reduceDiv, Nat.reduceAdd, Int.reduceToNat, absV, absC, scalar, alen, acap, conc, flats, live, blkOf, aload, rd, part?, afieldAddr, afield, aindexAddr, cellsOf, afill, places, abuild, optI, asliceV, asliceS, szOk, srcCells, aappend, astore, amakeSlice, abuildSlice, snapL, mapO, treeL, AVal.tree, AVal.flatT, isFlat, ares, isFz, afroz, afrozB, lookupA, lookupH, tops, if_true, if_false, reduceCtorEq, forall_const, ite_true, ite_false, implies_true, walkS, tabS, Tryd.results3, eq_false c2, l1, l1I, g1]
    all_goals
      refine callK (den_ClutterHeight (cs.getD 0 0) hc0) (by first | exact .inl rfl | exact .inr rfl) ?_
      simp (config := { maxSteps := 1000000 }) +decide only [NoH, Old, OldL, nilQ, nilA, RechL, ReY, isNew, stepO, XPost, postN, XOk, updN, updU, isEff, avalue, aeff, ASt.eval, ASt.put, ASt.set, ASt.new, Nat.reduceDiv, Nat.reduceAdd, Int.reduceToNat, absV, absC, scalar, alen, acap, conc, flats, live, blkOf, aload, rd, part?, afieldAddr, afield, aindexAddr, cellsOf, afill, places, abuild, optI, asliceV, asliceS, szOk, srcCells, aappend, astore, amakeSlice, abuildSlice, snapL, mapO, treeL, AVal.tree, AVal.flatT, isFlat, ares, isFz, afroz, afrozB, lookupA, lookupH, tops, if_true, if_false, reduceCtorEq, forall_const, ite_true, ite_false, implies_true, walkS, tabS, Tryd.results3]
      refine callK (cD (hgT (cs.getD 0 0)) ⟨by omega, by omega⟩) (by first | exact .inl rfl | exact .inr rfl) ?_
      simp (config := { maxSteps := 1000000 }) +decide only [NoH, Old, OldL, nilQ, nilA, RechL, ReY, isNew, stepO, XPost, postN, XOk, updN, updU, isEff, avalue, aeff, ASt.eval, ASt.put, ASt.set, ASt.new, Nat.reduceDiv, Nat.reduceAdd, Int.reduceToNat, absV, absC, scalar, alen, acap, conc, flats, live, blkOf, aload, rd, part?, afieldAddr, afield, aindexAddr, cellsOf, afill, places, abuild, optI, asliceV, asliceS, szOk, srcCells, aappend, astore, amakeSlice, abuildSlice, snapL, mapO, treeL, AVal.tree, AVal.flatT, isFlat, ares, isFz, afroz, afrozB, lookupA, lookupH, tops, if_true, if_false, reduceCtorEq, forall_const, ite_true, ite_false, implies_true, walkS, tabS, Tryd.results3, cuV_top]
      refine callK (ka) (by first | exact .inl rfl | exact .inr rfl) ?_
      simp (config := { maxSteps := 1000000 }) +decide only [NoH, Old, OldL, nilQ, nilA, RechL, ReY, isNew, stepO, XPost, postN, XOk, updN, updU, isEff, avalue, aeff, ASt.eval, ASt.put, ASt.set, ASt.new, Nat.reduceDiv, Nat.reduceAdd, Int.reduceToNat, absV, absC, scalar, alen, acap, conc, flats, live, blkOf, aload, rd, part?, afieldAddr, afield, aindexAddr, cellsOf, afill, places, abuild, optI, asliceV, asliceS, szOk, srcCells, aappend, astore, amakeSlice, abuildSlice, snapL, mapO, treeL, AVal.tree, AVal.flatT, isFlat, ares, isFz, afroz, afrozB, lookupA, lookupH, tops, if_true, if_false, reduceCtorEq, forall_const, ite_true, ite_false, implies_true, walkS, tabS, Tryd.results3]
      refine callK (kb) (by first | exact .inl rfl | exact .inr rfl) ?_
      simp (config := { maxSteps := 1000000 }) +decide only [NoH, Old, OldL, nilQ, nilA, RechL, ReY, isNew, stepO, XPost, postN, XOk, updN, updU, isEff, avalue, aeff, ASt.eval, ASt.put, ASt.set, ASt.new, Nat.reduceDiv, Nat.reduceAdd, Int.reduceToNat, absV, absC, scalar, alen, acap, conc, flats, live, blkOf, aload, rd, part?, afieldAddr, afield, aindexAddr, cellsOf, afill, places, abuild, optI, asliceV, asliceS, szOk, srcCells, aappend, astore, amakeSlice, abuildSlice, snapL, mapO, treeL, AVal.tree, AVal.flatT, isFlat, ares, isFz, afroz, afrozB, lookupA, lookupH, tops, if_true, if_false, reduceCtorEq, forall_const, ite_true, ite_false, implies_true, walkS, tabS, Tryd.results3, wab]
      refine callK (cD a ⟨by omega, by omega⟩) (by first | exact .inl rfl | exact .inr rfl) ?_
      simp (config := { maxSteps := 1000000 }) +decide only [NoH, Old, OldL, nilQ, nilA, RechL, ReY, isNew, stepO, XPost, postN, XOk, updN, updU, isEff, avalue, aeff, ASt.eval, ASt.put, ASt.set, ASt.new, Nat.reduceDiv, Nat.reduceAdd, Int.reduceToNat, absV, absC, scalar, alen, acap, conc, flats, live, blkOf, aload, rd, part?, afieldAddr, afield, aindexAddr, cellsOf, afill, places, abuild, optI, asliceV, asliceS, szOk, srcCells, aappend, astore, amakeSlice, abuildSlice, snapL, mapO, treeL, AVal.tree, AVal.flatT, isFlat, ares, isFz, afroz, afrozB, lookupA, lookupH, tops, if_true, if_false, reduceCtorEq, forall_const, ite_true, ite_false, implies_true, walkS, tabS, Tryd.results3]
      refine callK (cD (a + b) ⟨by omega, by omega⟩) (by first | exact .inl rfl | exact .inr rfl) ?_
      simp (config := { maxSteps := 1000000 }) +decide only [NoH, Old, OldL, nilQ, nilA, RechL, ReY, isNew, stepO, XPost, postN, XOk, updN, updU, isEff, avalue, aeff, ASt.eval, ASt.put, ASt.set, ASt.new, Nat.reduceDiv, Nat.reduceAdd, Int.reduceToNat, absV, absC, scalar, alen, acap, conc, flats, live, blkOf, aload, rd, part?, afieldAddr, afield, aindexAddr, cellsOf, afill, places, abuild, optI, asliceV, asliceS, szOk, srcCells, aappend, astore, amakeSlice, abuildSlice, snapL, mapO, treeL, AVal.tree, AVal.flatT, isFlat, ares, isFz, afroz, afrozB, lookupA, lookupH, tops, if_true, if_false, reduceCtorEq, forall_const, ite_true, ite_false, implies_true, walkS, tabS, Tryd.results3, eq_false y1, eq_false y2]
      refine callK (den_VegetationLoss f a hf ⟨by omega, by omega⟩) (by first | exact .inl rfl | exact .inr rfl) ?_
      simp (config := { maxSteps := 1000000 }) +decide only [NoH, Old, OldL, nilQ, nilA, RechL, ReY, isNew, stepO, XPost, postN, XOk, updN, updU, isEff, avalue, aeff, ASt.eval, ASt.put, ASt.set, ASt.new, Nat.reduceDiv, Nat.reduceAdd, Int.reduceToNat, absV, absC, scalar, alen, acap, conc, flats, live, blkOf, aload, rd, part?, afieldAddr, afield, aindexAddr, cellsOf, afill, places, abuild, optI, asliceV, asliceS, szOk, srcCells, aappend, astore, amakeSlice, abuildSlice, snapL, mapO, treeL, AVal.tree, AVal.flatT, isFlat, ares, isFz, afroz, afrozB, lookupA, lookupH, tops, if_true, if_false, reduceCtorEq, forall_const, ite_true, ite_false, implies_true, walkS, tabS, Tryd.results3]
      refine callK (den_VegetationLoss f (a + b) hf ⟨by omega, by omega⟩) (by first | exact .inl rfl | exact .inr rfl) ?_
      simp (config := { maxSteps := 1000000 }) +decide only [NoH, Old, OldL, nilQ, nilA, RechL, ReY, isNew, stepO, XPost, postN, XOk, updN, updU, isEff, avalue, aeff, ASt.eval, ASt.put, ASt.set, ASt.new, Nat.reduceDiv, Nat.reduceAdd, Int.reduceToNat, absV, absC, scalar, alen, acap, conc, flats, live, blkOf, aload, rd, part?, afieldAddr, afield, aindexAddr, cellsOf, afill, places, abuild, optI, asliceV, asliceS, szOk, srcCells, aappend, astore, amakeSlice, abuildSlice, snapL, mapO, treeL, AVal.tree, AVal.flatT, isFlat, ares, isFz, afroz, afrozB, lookupA, lookupH, tops, if_true, if_false, reduceCtorEq, forall_const, ite_true, ite_false, implies_true, walkS, tabS, Tryd.results3, eq_true y3, eq_true y4]
theorem shape_bytes : shapeOf Tryd.prog 20 22 = some (.slice 1 (.int .u8)) := by kernel_rfl
theorem globs_met {W : World} (h : laidMetH Tryd.prog Rows.fnRainRow.laid W) : Globs (tenv W) := by
  rw [MakeChecks.laidMetH_plain _ _ _ (by kernel_rfl)] at h
  obtain ⟨ps, h0, _, _⟩ := h
  obtain ⟨g0, t0, cs0, f0, p0, q0, a0, b0, c0, d0, h1, _⟩ := h0
  obtain ⟨g1, t1, cs1, f1, p1, q1, a1, b1, c1, d1, h2, _⟩ := h1
  obtain ⟨g2, t2, cs2, f2, p2, q2, a2, b2, c2, d2, h3, _⟩ := h2
  obtain ⟨g3, t3, cs3, f3, p3, q3, a3, b3, c3, d3, h4, _⟩ := h3
  intro x hx
  simp only [globPins, GL.tab, GL.ex, List.map_cons, List.map_nil, List.cons_append, List.nil_append, List.mem_cons, List.not_mem_nil, or_false] at hx
  rcases hx with rfl | rfl | rfl | rfl | rfl | rfl | rfl
  · rw [show gl_clutterTable = (tab3 .i64 tab_clutterTable).map AVal.flat from rfl]; exact tab_rep3 (k := .i64) (L := tab_clutterTable) (show Tryd.prog.globalNamed "loop.example/g00925/impl.clutterTable" = some 0 by kernel_rfl) (show (Tryd.prog.globals[0]?).map (·.type) = some 46 by kernel_rfl) Tryd.underlying46 Tryd.underlying45 (by kernel_rfl) ⟨rfl, rfl⟩ ⟨rfl, rfl⟩ ⟨rfl, rfl⟩ Tryd.underlying9 Tryd.underlying2 (by kernel_rfl) (by kernel_rfl) ⟨g3, t3, cs3, f3, p3, a3, b3, c3, d3⟩
  · exact tab_rep (k := .u64) (L := tab_uint64pow10) (show Tryd.prog.globalNamed "internal/strconv.uint64pow10" = some 1 by kernel_rfl) (show (Tryd.prog.globals[1]?).map (·.type) = some 73 by kernel_rfl) Tryd.underlying73 Tryd.underlying50 (by kernel_rfl) ⟨g2, t2, cs2, f2, p2, a2, b2, c2, d2⟩
  · exact tab_rep (k := .u8) (L := tab_deBruijn32tab) (show Tryd.prog.globalNamed "math/bits.deBruijn32tab" = some 2 by kernel_rfl) (show (Tryd.prog.globals[2]?).map (·.type) = some 79 by kernel_rfl) Tryd.underlying79 Tryd.underlying5 (by kernel_rfl) ⟨g0, t0, cs0, f0, p0, a0, b0, c0, d0⟩
  · exact tab_rep (k := .u8) (L := tab_deBruijn64tab) (show Tryd.prog.globalNamed "math/bits.deBruijn64tab" = some 3 by kernel_rfl) (show (Tryd.prog.globals[3]?).map (·.type) = some 80 by kernel_rfl) Tryd.underlying80 Tryd.underlying5 (by kernel_rfl) ⟨g1, t1, cs1, f1, p1, a1, b1, c1, d1⟩
  · exact tab_row (k := .u64) (L := tab_uint64pow10) (show Tryd.prog.globalNamed "internal/strconv.uint64pow10" = some 1 by kernel_rfl) (show (Tryd.prog.globals[1]?).map (·.type) = some 73 by kernel_rfl) Tryd.underlying73 Tryd.underlying50 (by kernel_rfl) (by kernel_rfl) ⟨g2, t2, cs2, f2, p2, a2, b2, c2, d2⟩
  · exact tab_row (k := .u8) (L := tab_deBruijn32tab) (show Tryd.prog.globalNamed "math/bits.deBruijn32tab" = some 2 by kernel_rfl) (show (Tryd.prog.globals[2]?).map (·.type) = some 79 by kernel_rfl) Tryd.underlying79 Tryd.underlying5 (by kernel_rfl) (by kernel_rfl) ⟨g0, t0, cs0, f0, p0, a0, b0, c0, d0⟩
  · exact tab_row (k := .u8) (L := tab_deBruijn64tab) (show Tryd.prog.globalNamed "math/bits.deBruijn64tab" = some 3 by kernel_rfl) (show (Tryd.prog.globals[3]?).map (·.type) = some 80 by kernel_rfl) Tryd.underlying80 Tryd.underlying5 (by kernel_rfl) (by kernel_rfl) ⟨g1, t1, cs1, f1, p1, a1, b1, c1, d1⟩
theorem door_met (os : Os) (args : Array Value) : laidMetH Tryd.prog Rows.fnRainRow.laid ((World.doorLaid Tryd.prog 400 os).forCall (fun _ _ => 0) ⟨#[], args, []⟩).memory :=
  laidMetH_of_parts3 (fuel := 8) (laidMet_of_run' 8 (by kernel_rfl) (by kernel_rfl)) (by kernel_rfl) (by kernel_rfl)
set_option maxRecDepth 100000 in
theorem law_lifted (os : Os) (started : os.Started) (H : Type) (enc : TypeId × Value → H) :
    ReturnsInHanded {} Tryd.checked os 3 .any (fun w args => (Rows.fnRainSpec.pre enc Tryd.prog Tryd.f3 [] false w args ∧ laidMetH Tryd.prog Rows.fnRainRow.laid w) ∧ sizedMet enc Tryd.prog Tryd.f3 (OpenSpec.ofChange Rows.fnRainSpec) false w args)
      (Rows.fnRainSpec.post enc Tryd.prog Tryd.f3 false true false false) := by
  refine returnsInHanded_of_change_and (C := Tryd.checked) (X := fun w _ => laidMetH Tryd.prog Rows.fnRainRow.laid w) (fun _ _ _ hh h => h.of_heap hh) ownK started (by kernel_rfl) Tryd.func3
    (ChangeSpec.witness_shaped (enc := enc) (C := Tryd.checked) (os := os) (X := fun w _ => laidMetH Tryd.prog Rows.fnRainRow.laid w) false (World.doorLaid Tryd.prog 400 os) #[.slice none 0 0, .slice none 0 0] 8 rfl (World.shaped_of_RefB (by kernel_rfl) (by kernel_rfl)) (by kernel_rfl) (by kernel_rfl) (by kernel_rfl) (door_met os _)) ?_
  intro W base args ds gs before hval hW hcnd _ hL _
  have e : Tryd.f3.params.toList = [22, 22] := by kernel_rfl
  refine law_callsV (C := Tryd.prog) (tb := 4) laidOut (by kernel_rfl) rfl (by kernel_rfl) ?_ ?_ hval hW (globs_met hL) ?_
  · intro t ht
    rw [e] at ht
    simp only [List.mem_cons, List.mem_nil_iff, or_false] at ht
    rcases ht with rfl | rfl
    · exact ⟨by kernel_rfl, of_decide_eq_true (by kernel_rfl), by rw [shape_bytes]; rfl⟩
    · exact ⟨by kernel_rfl, of_decide_eq_true (by kernel_rfl), by rw [shape_bytes]; rfl⟩
  · intro ds gs hds hgs
    match ds, hds, gs, hgs with
    | [_d0, _d1], _, [_g0], _ => exact ⟨rfl, rfl, rfl⟩
  · intro asl has
    rw [e] at has
    obtain ⟨a0, r0, σ0, rfl, hs0, hv0, has1⟩ := has
    rw [shape_bytes] at hs0
    simp only [Option.some.injEq] at hs0
    subst hs0
    obtain ⟨xs0, rfl, hy0⟩ := has_bytesV hv0
    obtain ⟨a1, r1, σ1, rfl, hs1, hv1, rfl⟩ := has1
    rw [shape_bytes] at hs1
    simp only [Option.some.injEq] at hs1
    subst hs1
    obtain ⟨xs1, rfl, hy1⟩ := has_bytesV hv1
    exact den_law xs0 hy0 xs1 hy1
theorem law_holds : Rows.FnRainSaid :=
  OpenClaim.holds_of_wide 3 Tryd.f3 rfl rfl rfl rfl rfl rfl rfl ⟨rfl, rfl, rfl, rfl, rfl⟩ rfl rfl rfl rfl rfl (by kernel_rfl) Tryd.func3 (by kernel_rfl)
    (of_decide_eq_true (by kernel_rfl)) (by unfold Func.isWrapper; first | (rw [if_pos (by decide +kernel)]; kernel_rfl) | (rw [if_neg (by decide +kernel)]; exact ⟨rfl, rfl⟩))
    (fun os started H enc _ => law_lifted os started H enc)
theorem card_holds : Rows.FnRainCardSaid :=
  Claim7.holds_tied_plain_at .later [] [.data, .data, .data, .data] true (true, "5ef9b445d0aeaa932ad774c021dafeb56d002b1196905918bc3d3999eafa01eb") false
    law_holds (fun _ h => by cases h) (by kernel_rfl) (fun _ h => by cases h) fnRain_row_tie rfl ⟨rfl, rfl⟩ (by kernel_rfl) rfl
    (fun f fn hf hfn => by
      obtain rfl : f = 3 := Option.some.inj ((show Tryd.prog.funcNamed "loop.example/g00925/laws.FnRain" = some 3 by kernel_rfl).symm.trans hf) |>.symm
      obtain rfl : fn = Tryd.f3 := (Option.some.inj (Tryd.func3.symm.trans hfn)).symm
      refine ⟨by kernel_rfl, fun j t ht => ?_⟩
      have hmem : t ∈ Tryd.f3.params.toList := by
        have := Array.mem_of_getElem? ht
        simpa using this
      rw [show Tryd.f3.params.toList = [22, 22] by kernel_rfl] at hmem
      simp only [List.mem_cons, List.mem_nil_iff, or_false] at hmem
      rcases hmem with rfl | rfl
      · exact (show Tryd.prog.wantsStandIn 22 = false by kernel_rfl)
      · exact (show Tryd.prog.wantsStandIn 22 = false by kernel_rfl))
    (by kernel_rfl)
end Go.Proofs.YtfdcbmjhoaehlaaDoor
