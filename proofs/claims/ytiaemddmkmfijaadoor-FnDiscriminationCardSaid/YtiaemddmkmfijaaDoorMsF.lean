/-
  OWN WORK: masks that meet, of the reference; tables of discriminations; steps.
-/
import Derived.Test.YtiaemddmkmfijaaDoorMsE
namespace Go.Proofs.YtiaemddmkmfijaaDoor
open Go Go.Own Go.Proofs
set_option maxHeartbeats 4000000
set_option maxRecDepth 20000
set_option linter.unusedSimpArgs false
set_option linter.unusedVariables false
/-! ### masks that meet -/
structure Meet (O P G : List Int) : Prop where
  inc : G.Pairwise (· < ·)
  mem : ∀ x, x ∈ G ↔ x ∈ O ∨ x ∈ P
theorem MkOk.pw {O L : List Int} (h : MkOk O L) : O.Pairwise (· < ·) := List.pairwise_iff_getElem.2 fun i j hi hj hij => by
  have := h.oLt hij hj
  rw [gD0 hi, gD0 hj] at this
  exact this
theorem put_meet {O : List Int} (h : O.Pairwise (· < ·)) : ∀ P : List Int, Meet O P (P.foldl put O)
  | [] => ⟨h, fun x => by simp⟩
  | p :: P => by
    rw [List.foldl_cons]
    have k := put_meet (O := put O p) (by rw [put_ins]; exact sorted_ins h) P
    refine ⟨k.inc, fun x => ?_⟩
    rw [k.mem, put_ins, mem_ins]
    simp only [List.mem_cons]
    constructor
    · rintro ((h | h) | h)
      · exact .inr (.inl h)
      · exact .inl h
      · exact .inr (.inr h)
    · rintro (h | h | h)
      · exact .inl (.inr h)
      · exact .inl (.inl h)
      · exact .inr h
/-- the losses of masks that meet -/
def meetL (O L P Q G : List Int) : List Int := G.map fun g => max (lossV O L g) (lossV P Q g)
theorem pw_first {G : List Int} (h : G.Pairwise (· < ·)) {x : Int} (hx : x ∈ G) (h0 : ∀ y ∈ G, x ≤ y) : G.getD 0 0 = x := by
  obtain ⟨i, hi, e⟩ := List.getElem_of_mem hx
  have l0 : 0 < G.length := by omega
  rw [gD0 l0]
  by_cases z : i = 0
  · subst z; exact e
  · have a := (List.pairwise_iff_getElem.1 h) 0 i l0 hi (by omega)
    have b := h0 _ (List.getElem_mem l0)
    omega
theorem meetL_at {O L P Q G : List Int} {j : Nat} (h : j < G.length) : (meetL O L P Q G).getD j 0 = max (lossV O L (G.getD j 0)) (lossV P Q (G.getD j 0)) := by
  rw [gD0 (by unfold meetL; simpa using h), gD0 h]
  simp [meetL]
theorem ab_pos {x : Int} (h : 0 ≤ x) : ab x = x := if_pos h
section
variable {O L P Q G : List Int} (h : MkOk O L) (g : MkOk P Q) (m : Meet O P G)
include h g m
theorem meet_bd : ∀ x ∈ G, 0 ≤ x ∧ x ≤ 100000 := fun x hx => by
  rcases (m.mem x).1 hx with k | k
  · exact h.oM x k
  · exact g.oM x k
theorem meet_ok (hl : G.length ≤ 12) : MkOk G (meetL O L P Q G) := by
  have n2 := h.n2
  have bd := meet_bd h g m
  have zO : (0 : Int) ∈ O := by have := getD_mem (L := O) (i := 0) (by omega); rw [h.o0] at this; exact this
  have zG : G.getD 0 0 = 0 := pw_first m.inc ((m.mem 0).2 (.inl zO)) fun y hy => (bd y hy).1
  have i1 := getD_mem (L := O) (i := 1) (by omega)
  have p1 : 0 < O.getD 1 0 := by have := h.inc 1 (by omega) (by omega); rw [show 1 - 1 = 0 from rfl, h.o0] at this; exact this
  have l2 : 2 ≤ G.length := Classical.byContradiction fun c => by
    obtain ⟨i, hi, e⟩ := mem_getD ((m.mem _).2 (.inl i1))
    rw [show i = 0 by omega, zG] at e
    omega
  have inc : ∀ i, 0 < i → i < G.length → G.getD (i - 1) 0 < G.getD i 0 := fun i i0 hi => by
    rw [gD0 hi, gD0 (by omega)]
    exact (List.pairwise_iff_getElem.1 m.inc) (i - 1) i (by omega) hi (by omega)
  have at0 : ∀ i, i < G.length → 0 ≤ G.getD i 0 := fun i hi => (bd _ (getD_mem hi)).1
  refine ⟨l2, hl, by simp [meetL], zG, ?_, inc, bd, fun i i0 hi => ?_, fun x hx => ?_⟩
  · rw [meetL_at (by omega), zG, lossV_T, lossV_T, ab_pos (Int.le_refl 0)]
    have a := lossT_at h (k := 0) (by omega)
    have b := lossT_at g (k := 0) (by have := g.n2; omega)
    rw [h.o0, h.l0] at a
    rw [g.o0, g.l0] at b
    omega
  · rw [meetL_at hi, meetL_at (by omega), lossV_T, lossV_T, lossV_T, lossV_T, ab_pos (at0 _ hi), ab_pos (at0 (i - 1) (by omega))]
    have k := inc i i0 hi
    have a := lossT_mono h (at0 (i - 1) (by omega)) (Int.le_of_lt k)
    have b := lossT_mono g (at0 (i - 1) (by omega)) (Int.le_of_lt k)
    omega
  · obtain ⟨i, hi, e⟩ := mem_getD hx
    rw [meetL_at (by unfold meetL at hi; simpa using hi)] at e
    have a := lossV_in h (G.getD i 0)
    have b := lossV_in g (G.getD i 0)
    omega
theorem meet_loss (hl : G.length ≤ 12) (x : Int) : lossV O L x - 1 ≤ lossV G (meetL O L P Q G) x ∧ lossV P Q x - 1 ≤ lossV G (meetL O L P Q G) x := by
  have ok := meet_ok h g m hl
  have bd := meet_bd h g m
  constructor
  · refine loss_common h ok (fun x hx => (m.mem x).2 (.inl hx)) (fun j hj => ?_) (ab_nn x)
    rw [meetL_at hj]
    have : lossV O L (G.getD j 0) = lossT O L (G.getD j 0) := by rw [lossV_T, ab_pos (bd _ (getD_mem hj)).1]
    omega
  · refine loss_common g ok (fun x hx => (m.mem x).2 (.inr hx)) (fun j hj => ?_) (ab_nn x)
    rw [meetL_at hj]
    have : lossV P Q (G.getD j 0) = lossT P Q (G.getD j 0) := by rw [lossV_T, ab_pos (bd _ (getD_mem hj)).1]
    omega
end
theorem foldl_len (O : List Int) : ∀ P : List Int, (P.foldl put O).length ≤ O.length + P.length
  | [] => by simp
  | p :: P => by
    rw [List.foldl_cons]
    have a := foldl_len (put O p) P
    have b : (put O p).length ≤ O.length + 1 := by
      unfold put
      have k := putK_len O p O.length
      split
      · exact k.1
      · rename_i c
        have := k.2 (by simpa using c)
        simp only [List.length_append, List.length_cons, List.length_nil]
        omega
    simp only [List.length_cons]
    omega
/-- what two masks meet in -/
def meetV (O L P Q G : List Int) : AVal := if 12 < G.length then .tup [mkV [] [], .i 5] else .tup [mkV G (meetL O L P Q G), .i 0]
theorem meetV_tree (O L P Q G : List Int) : (meetV O L P Q G).tree = true := by
  unfold meetV
  split <;> simp only [AVal.tree, treeL, treeL_i, treeL_ints, Bool.and_self, Bool.and_true]
theorem den_specMeet {O L P Q : List Int} (h : MkOk O L) (g : MkOk P Q) : Den Tryd.prog 16 [mkV O L, mkV P Q] (meetV O L P Q (P.foldl put O)) := by
  refine den_of_awpG (ghs [] [2, 3, 55]) Tryd.func16 rfl (by kernel_rfl) (Nat.le_of_ble_eq_true rfl) (by simp only [treeL, AVal.tree, treeL_i, treeL_ints, treeL_u8, treeL_append, Bool.and_self, Bool.and_true, Bool.true_and, meetV_tree]) (by first | rfl | simp only [treeL, AVal.tree, treeL_i, treeL_ints, treeL_u8, treeL_append, Bool.and_self, Bool.and_true, Bool.true_and, meetV_tree]) mixed (by kernel_rfl) fun hl => ?_
  simp only [lensL, lens, lensL_i, lensL_mapC, maxI, and_true, true_and] at hl
  rw [Tryd.ntmps16]
  refine ex_start ?_
  have h12 := h.n12
  have g12 := g.n12
  have gq := g.eq
  simp (config := { maxSteps := 1000000 }) +decide only [NoH, Old, OldL, nilQ, nilA, asgn, nz, RechL, ReY, isNew, stepO, XPost, postN, XOk, updN, updU, isEff, avalue, aeff, ASt.eval, ASt.put, ASt.set, ASt.new, Nat.reduceDiv, Nat.reduceAdd, Int.reduceToNat, absV, absC, scalar, alen, acap, conc, flats, live, blkOf, aload, rd, part?, afieldAddr, afield, aindexAddr, cellsOf, afill, places, abuild, optI, asliceV, asliceS, szOk, srcCells, aappend, acopy, astore, amakeSlice, abuildSlice, snapL, mapO, treeL, AVal.tree, AVal.flatT, isFlat, ares, isFz, afroz, afrozB, lookupA, lookupH, tops, if_true, if_false, reduceCtorEq, forall_const, ite_true, ite_false, implies_true, walkS, tabS, Tryd.results16]
  refine callK (den_l08Ok h) (by first | exact .inl rfl | exact .inr rfl) ?_
  simp (config := { maxSteps := 1000000 }) +decide only [NoH, Old, OldL, nilQ, nilA, asgn, nz, RechL, ReY, isNew, stepO, XPost, postN, XOk, updN, updU, isEff, avalue, aeff, ASt.eval, ASt.put, ASt.set, ASt.new, Nat.reduceDiv, Nat.reduceAdd, Int.reduceToNat, absV, absC, scalar, alen, acap, conc, flats, live, blkOf, aload, rd, part?, afieldAddr, afield, aindexAddr, cellsOf, afill, places, abuild, optI, asliceV, asliceS, szOk, srcCells, aappend, acopy, astore, amakeSlice, abuildSlice, snapL, mapO, treeL, AVal.tree, AVal.flatT, isFlat, ares, isFz, afroz, afrozB, lookupA, lookupH, tops, if_true, if_false, reduceCtorEq, forall_const, ite_true, ite_false, implies_true, walkS, tabS, Tryd.results16]
  refine callK (den_l08Ok g) (by first | exact .inl rfl | exact .inr rfl) ?_
  simp (config := { maxSteps := 1000000 }) +decide only [NoH, Old, OldL, nilQ, nilA, asgn, nz, RechL, ReY, isNew, stepO, XPost, postN, XOk, updN, updU, isEff, avalue, aeff, ASt.eval, ASt.put, ASt.set, ASt.new, Nat.reduceDiv, Nat.reduceAdd, Int.reduceToNat, absV, absC, scalar, alen, acap, conc, flats, live, blkOf, aload, rd, part?, afieldAddr, afield, aindexAddr, cellsOf, afill, places, abuild, optI, asliceV, asliceS, szOk, srcCells, aappend, acopy, astore, amakeSlice, abuildSlice, snapL, mapO, treeL, AVal.tree, AVal.flatT, isFlat, ares, isFz, afroz, afrozB, lookupA, lookupH, tops, if_true, if_false, reduceCtorEq, forall_const, ite_true, ite_false, implies_true, walkS, tabS, Tryd.results16]
  refine callK (den_l00Own O (by omega)) (by first | exact .inl rfl | exact .inr rfl) ?_
  simp (config := { maxSteps := 1000000 }) +decide only [NoH, Old, OldL, nilQ, nilA, asgn, nz, RechL, ReY, isNew, stepO, XPost, postN, XOk, updN, updU, isEff, avalue, aeff, ASt.eval, ASt.put, ASt.set, ASt.new, Nat.reduceDiv, Nat.reduceAdd, Int.reduceToNat, absV, absC, scalar, alen, acap, conc, flats, live, blkOf, aload, rd, part?, afieldAddr, afield, aindexAddr, cellsOf, afill, places, abuild, optI, asliceV, asliceS, szOk, srcCells, aappend, acopy, astore, amakeSlice, abuildSlice, snapL, mapO, treeL, AVal.tree, AVal.flatT, isFlat, ares, isFz, afroz, afrozB, lookupA, lookupH, tops, if_true, if_false, reduceCtorEq, forall_const, ite_true, ite_false, implies_true, walkS, tabS, Tryd.results16]
  refine ex_loop (fun k : {k : Nat // k ≤ P.length} => mkG (ghs [] [2, 3, 55]) [(2, mkP O L), (3, mkP P Q), (4, .ptr 4 0 0), (6, ints ((P.take k.1).foldl put O)), (7, .i k.1)] [(4, ⟨0, 2, [.nl, .nl]⟩)] 1 63) (fun k => P.length - k.1) ⟨0, Nat.zero_le _⟩ ?_ ?_
  · refine weak_mk rfl (by first | exact Nat.le_refl _ | (simp only [mk_gen]; omega)) ?_ ?_ <;> simp +decide only [w_lookup_nil, w_lookup_cons, ch_ch, ch_lit, lit_ch, wkT, wkH, wkB, WVL, WV_refl', Int.natCast_zero, Int.natCast_add, Int.natCast_one, Nat.sub_self, Nat.sub_zero, List.replicate_zero, List.take_zero, List.nil_append, List.append_nil, fillC_zero, Nat.reduceDiv, Nat.reduceAdd, upd_bk, bk_at, getB_zero, getB_succ, modB_zero, modB_succ, rows_lit, repB_zero, repB_succ, List.length_cons, List.length_nil, upd_upd_same, upd_apply, mk_tmp, mk_heap, mk_gen, lookupA, lookupH, List.getD_cons_zero, List.getD_cons_succ, init_two, tops, Bool.true_and, and_self, and_true, true_and, true_or, if_true, if_false, ite_true, ite_false, reduceCtorEq, reduceIte, List.take_zero, List.foldl_nil]
  rintro ⟨k, hk⟩
  have hk' : k ≤ P.length := hk
  by_cases hlt : k < P.length
  · have hltI : (k : Int) < (P.length : Int) := by omega
    have wk : IntKind.i64.wrap ((k : Int) + 1) = ((k + 1 : Nat) : Int) := wrap64 (by omega) (by omega)
    have lt := foldl_len O (P.take k)
    have lt2 : (P.take k).length ≤ 12 := by rw [List.length_take]; omega
    have e : (P.take (k + 1)).foldl put O = put ((P.take k).foldl put O) P[k] := by
      rw [List.take_succ_eq_append_getElem hlt, List.foldl_append]
      rfl
    simp (config := { maxSteps := 1000000 }) +decide only [NoH, Old, OldL, nilQ, nilA, asgn, nz, RechL, ReY, isNew, stepO, XPost, postN, XOk, updN, updU, isEff, avalue, aeff, ASt.eval, ASt.put, ASt.set, ASt.new, Nat.reduceDiv, Nat.reduceAdd, Int.reduceToNat, absV, absC, scalar, alen, acap, conc, flats, live, blkOf, aload, rd, part?, afieldAddr, afield, aindexAddr, cellsOf, afill, places, abuild, optI, asliceV, asliceS, szOk, srcCells, aappend, acopy, astore, amakeSlice, abuildSlice, snapL, mapO, treeL, AVal.tree, AVal.flatT, isFlat, ares, isFz, afroz, afrozB, lookupA, lookupH, tops, if_true, if_false, reduceCtorEq, forall_const, ite_true, ite_false, implies_true, walkS, tabS, Tryd.results16, eq_true hltI, hlt]
    refine callK (den_l00Put ((P.take k).foldl put O) P[k] (by omega)) (by first | exact .inl rfl | exact .inr rfl) ?_
    simp (config := { maxSteps := 1000000 }) +decide only [NoH, Old, OldL, nilQ, nilA, asgn, nz, RechL, ReY, isNew, stepO, XPost, postN, XOk, updN, updU, isEff, avalue, aeff, ASt.eval, ASt.put, ASt.set, ASt.new, Nat.reduceDiv, Nat.reduceAdd, Int.reduceToNat, absV, absC, scalar, alen, acap, conc, flats, live, blkOf, aload, rd, part?, afieldAddr, afield, aindexAddr, cellsOf, afill, places, abuild, optI, asliceV, asliceS, szOk, srcCells, aappend, acopy, astore, amakeSlice, abuildSlice, snapL, mapO, treeL, AVal.tree, AVal.flatT, isFlat, ares, isFz, afroz, afrozB, lookupA, lookupH, tops, if_true, if_false, reduceCtorEq, forall_const, ite_true, ite_false, implies_true, walkS, tabS, Tryd.results16, wk]
    refine ⟨⟨k + 1, hlt⟩, ?_, by show P.length - (k + 1) < P.length - k; omega⟩
    refine weak_mk rfl (by first | exact Nat.le_refl _ | (simp only [mk_gen]; omega)) ?_ ?_ <;> simp +decide only [w_lookup_nil, w_lookup_cons, ch_ch, ch_lit, lit_ch, wkT, wkH, wkB, WVL, WV_refl', Int.natCast_zero, Int.natCast_add, Int.natCast_one, Nat.sub_self, Nat.sub_zero, List.replicate_zero, List.take_zero, List.nil_append, List.append_nil, fillC_zero, Nat.reduceDiv, Nat.reduceAdd, upd_bk, bk_at, getB_zero, getB_succ, modB_zero, modB_succ, rows_lit, repB_zero, repB_succ, List.length_cons, List.length_nil, upd_upd_same, upd_apply, mk_tmp, mk_heap, mk_gen, lookupA, lookupH, List.getD_cons_zero, List.getD_cons_succ, init_two, tops, Bool.true_and, and_self, and_true, true_and, true_or, if_true, if_false, ite_true, ite_false, reduceCtorEq, reduceIte, e]
  have hltI : ¬ (k : Int) < (P.length : Int) := by omega
  have tk : P.take k = P := List.take_of_length_le (by omega)
  rw [tk]
  have gl := foldl_len O P
  have mt := put_meet h.pw P
  have bd := meet_bd h g mt
  generalize P.foldl put O = G at *
  simp (config := { maxSteps := 1000000 }) +decide only [NoH, Old, OldL, nilQ, nilA, asgn, nz, RechL, ReY, isNew, stepO, XPost, postN, XOk, updN, updU, isEff, avalue, aeff, ASt.eval, ASt.put, ASt.set, ASt.new, Nat.reduceDiv, Nat.reduceAdd, Int.reduceToNat, absV, absC, scalar, alen, acap, conc, flats, live, blkOf, aload, rd, part?, afieldAddr, afield, aindexAddr, cellsOf, afill, places, abuild, optI, asliceV, asliceS, szOk, srcCells, aappend, acopy, astore, amakeSlice, abuildSlice, snapL, mapO, treeL, AVal.tree, AVal.flatT, isFlat, ares, isFz, afroz, afrozB, lookupA, lookupH, tops, if_true, if_false, reduceCtorEq, forall_const, ite_true, ite_false, implies_true, walkS, tabS, Tryd.results16, eq_false hltI]
  refine ex_loopW (fun p : {p : Nat × Nat × Nat // p.1 ≤ G.length} => mkG (ghs [] [2, 3, 55]) [(2, mkP O L), (3, mkP P Q), (4, .ptr 4 0 0), (6, ints G), (8, .ptr 8 1 0), (9, .i p.1.1)] [(4, ⟨0, 2, [.nl, .nl]⟩), (8, ⟨1, 2, [ints G, .own 56 p.1.2.1 0 p.1.1]⟩), (56, ⟨p.1.2.1, 1, mapC AVal.i (meetL O L P Q (G.take p.1.1))⟩)] p.1.2.2 63) (fun p => G.length - p.1.1) ⟨(0, 2, 3), Nat.zero_le _⟩ ?_ ?_
  · have e : meetL O L P Q (G.take 0) = [] := rfl
    refine weak_mk rfl (by first | exact Nat.le_refl _ | (simp only [mk_gen]; omega)) ?_ ?_ <;> simp +decide only [w_lookup_nil, w_lookup_cons, ch_ch, ch_lit, lit_ch, wkT, wkH, wkB, WVL, WV_refl', Int.natCast_zero, Int.natCast_add, Int.natCast_one, Nat.sub_self, Nat.sub_zero, List.replicate_zero, List.take_zero, List.nil_append, List.append_nil, fillC_zero, Nat.reduceDiv, Nat.reduceAdd, upd_bk, bk_at, getB_zero, getB_succ, modB_zero, modB_succ, rows_lit, repB_zero, repB_succ, List.length_cons, List.length_nil, upd_upd_same, upd_apply, mk_tmp, mk_heap, mk_gen, lookupA, lookupH, List.getD_cons_zero, List.getD_cons_succ, init_two, tops, Bool.true_and, and_self, and_true, true_and, true_or, if_true, if_false, ite_true, ite_false, reduceCtorEq, reduceIte, e, mapC_nil]
    exact ⟨.inr (WV_nl (blk := ⟨2, 1, []⟩) rfl rfl rfl rfl), rfl⟩
  rintro ⟨⟨k, g1, G1⟩, hk⟩
  have hk' : k ≤ G.length := hk
  have lm : (meetL O L P Q (G.take k)).length = k := by simp [meetL]; omega
  by_cases hlt : k < G.length
  case neg =>
    have ek : k = G.length := by omega
    subst ek
    have hltI : ¬ (G.length : Int) < (G.length : Int) := by omega
    have tg : G.take G.length = G := List.take_length
    rw [tg] at lm ⊢
    simp (config := { maxSteps := 1000000 }) +decide only [NoH, Old, OldL, nilQ, nilA, asgn, nz, RechL, ReY, isNew, stepO, XPost, postN, XOk, updN, updU, isEff, avalue, aeff, ASt.eval, ASt.put, ASt.set, ASt.new, Nat.reduceDiv, Nat.reduceAdd, Int.reduceToNat, absV, absC, scalar, alen, acap, conc, flats, live, blkOf, aload, rd, part?, afieldAddr, afield, aindexAddr, cellsOf, afill, places, abuild, optI, asliceV, asliceS, szOk, srcCells, aappend, acopy, astore, amakeSlice, abuildSlice, snapL, mapO, treeL, AVal.tree, AVal.flatT, isFlat, ares, isFz, afroz, afrozB, lookupA, lookupH, tops, if_true, if_false, reduceCtorEq, forall_const, ite_true, ite_false, implies_true, walkS, tabS, Tryd.results16, eq_false hltI, loopW_exit]
    refine ⟨mkG (ghs [] [2, 3, 55]) [(4, .ptr 4 0 0), (6, ints G), (8, .ptr 8 1 0)] [(4, ⟨0, 2, [.nl, .nl]⟩), (8, ⟨1, 2, [ints G, .lst (mapC AVal.i (meetL O L P Q G)) G.length]⟩)] G1 63, .step ?_ (.refl _), ?_⟩
    · refine weak_mk rfl (by first | exact Nat.le_refl _ | (simp only [mk_gen]; omega)) ?_ ?_ <;> simp +decide only [w_lookup_nil, w_lookup_cons, ch_ch, ch_lit, lit_ch, wkT, wkH, wkB, WVL, WV_refl', Int.natCast_zero, Int.natCast_add, Int.natCast_one, Nat.sub_self, Nat.sub_zero, List.replicate_zero, List.take_zero, List.nil_append, List.append_nil, fillC_zero, Nat.reduceDiv, Nat.reduceAdd, upd_bk, bk_at, getB_zero, getB_succ, modB_zero, modB_succ, rows_lit, repB_zero, repB_succ, List.length_cons, List.length_nil, upd_upd_same, upd_apply, mk_tmp, mk_heap, mk_gen, lookupA, lookupH, List.getD_cons_zero, List.getD_cons_succ, init_two, tops, Bool.true_and, and_self, and_true, true_and, true_or, if_true, if_false, ite_true, ite_false, reduceCtorEq, reduceIte]
      exact .inr (frz_intsM lm rfl rfl)
    · unfold meetV
      by_cases c : 12 < G.length
      · have cI : (12 : Int) < (G.length : Int) := by omega
        rw [if_pos c]
        simp (config := { maxSteps := 1000000 }) +decide only [NoH, Old, OldL, nilQ, nilA, asgn, nz, RechL, ReY, isNew, stepO, XPost, postN, XOk, updN, updU, isEff, avalue, aeff, ASt.eval, ASt.put, ASt.set, ASt.new, Nat.reduceDiv, Nat.reduceAdd, Int.reduceToNat, absV, absC, scalar, alen, acap, conc, flats, live, blkOf, aload, rd, part?, afieldAddr, afield, aindexAddr, cellsOf, afill, places, abuild, optI, asliceV, asliceS, szOk, srcCells, aappend, acopy, astore, amakeSlice, abuildSlice, snapL, mapO, treeL, AVal.tree, AVal.flatT, isFlat, ares, isFz, afroz, afrozB, lookupA, lookupH, tops, if_true, if_false, reduceCtorEq, forall_const, ite_true, ite_false, implies_true, walkS, tabS, Tryd.results16, eq_true cI]
        rfl
      · have cI : ¬ (12 : Int) < (G.length : Int) := by omega
        rw [if_neg c]
        have et : treeL (mapC AVal.i (meetL O L P Q G)) = true := treeL_i _
        simp (config := { maxSteps := 1000000 }) +decide only [NoH, Old, OldL, nilQ, nilA, asgn, nz, RechL, ReY, isNew, stepO, XPost, postN, XOk, updN, updU, isEff, avalue, aeff, ASt.eval, ASt.put, ASt.set, ASt.new, Nat.reduceDiv, Nat.reduceAdd, Int.reduceToNat, absV, absC, scalar, alen, acap, conc, flats, live, blkOf, aload, rd, part?, afieldAddr, afield, aindexAddr, cellsOf, afill, places, abuild, optI, asliceV, asliceS, szOk, srcCells, aappend, acopy, astore, amakeSlice, abuildSlice, snapL, mapO, treeL, AVal.tree, AVal.flatT, isFlat, ares, isFz, afroz, afrozB, lookupA, lookupH, tops, if_true, if_false, reduceCtorEq, forall_const, ite_true, ite_false, implies_true, walkS, tabS, Tryd.results16, eq_false cI, et]
        show _ = AVal.agg [ints G, .lst (mapC AVal.i (meetL O L P Q G)) (meetL O L P Q G).length]
        rw [lm]
  have hltI : (k : Int) < (G.length : Int) := by omega
  have wk : IntKind.i64.wrap ((k : Int) + 1) = ((k + 1 : Nat) : Int) := wrap64 (by omega) (by omega)
  have bg := bd G[k] (List.getElem_mem hlt)
  have tk2 : (meetL O L P Q (G.take k)).take k = meetL O L P Q (G.take k) := List.take_of_length_le (by omega)
  have h8 : (k + 1) * 8 ≤ 140737488355328 := by omega
  have sn : meetL O L P Q (G.take k) ++ [max (lossV O L G[k]) (lossV P Q G[k])] = meetL O L P Q (G.take (k + 1)) := by
    unfold meetL
    rw [List.take_succ_eq_append_getElem hlt, List.map_append]
    rfl
  have q1 : ∀ c : Int, (List.replicate 1 (0 : Int)).set 0 c = [c] := fun _ => rfl
  simp (config := { maxSteps := 1000000 }) +decide only [NoH, Old, OldL, nilQ, nilA, asgn, nz, RechL, ReY, isNew, stepO, XPost, postN, XOk, updN, updU, isEff, avalue, aeff, ASt.eval, ASt.put, ASt.set, ASt.new, Nat.reduceDiv, Nat.reduceAdd, Int.reduceToNat, absV, absC, scalar, alen, acap, conc, flats, live, blkOf, aload, rd, part?, afieldAddr, afield, aindexAddr, cellsOf, afill, places, abuild, optI, asliceV, asliceS, szOk, srcCells, aappend, acopy, astore, amakeSlice, abuildSlice, snapL, mapO, treeL, AVal.tree, AVal.flatT, isFlat, ares, isFz, afroz, afrozB, lookupA, lookupH, tops, if_true, if_false, reduceCtorEq, forall_const, ite_true, ite_false, implies_true, walkS, tabS, Tryd.results16, eq_true hltI, hlt]
  refine callK (den_l08Loss h G[k] (by omega)) (by first | exact .inl rfl | exact .inr rfl) ?_
  simp (config := { maxSteps := 1000000 }) +decide only [NoH, Old, OldL, nilQ, nilA, asgn, nz, RechL, ReY, isNew, stepO, XPost, postN, XOk, updN, updU, isEff, avalue, aeff, ASt.eval, ASt.put, ASt.set, ASt.new, Nat.reduceDiv, Nat.reduceAdd, Int.reduceToNat, absV, absC, scalar, alen, acap, conc, flats, live, blkOf, aload, rd, part?, afieldAddr, afield, aindexAddr, cellsOf, afill, places, abuild, optI, asliceV, asliceS, szOk, srcCells, aappend, acopy, astore, amakeSlice, abuildSlice, snapL, mapO, treeL, AVal.tree, AVal.flatT, isFlat, ares, isFz, afroz, afrozB, lookupA, lookupH, tops, if_true, if_false, reduceCtorEq, forall_const, ite_true, ite_false, implies_true, walkS, tabS, Tryd.results16, eq_true hltI, hlt]
  refine callK (den_l08Loss g G[k] (by omega)) (by first | exact .inl rfl | exact .inr rfl) ?_
  simp (config := { maxSteps := 1000000 }) +decide only [NoH, Old, OldL, nilQ, nilA, asgn, nz, RechL, ReY, isNew, stepO, XPost, postN, XOk, updN, updU, isEff, avalue, aeff, ASt.eval, ASt.put, ASt.set, ASt.new, Nat.reduceDiv, Nat.reduceAdd, Int.reduceToNat, absV, absC, scalar, alen, acap, conc, flats, live, blkOf, aload, rd, part?, afieldAddr, afield, aindexAddr, cellsOf, afill, places, abuild, optI, asliceV, asliceS, szOk, srcCells, aappend, acopy, astore, amakeSlice, abuildSlice, snapL, mapO, treeL, AVal.tree, AVal.flatT, isFlat, ares, isFz, afroz, afrozB, lookupA, lookupH, tops, if_true, if_false, reduceCtorEq, forall_const, ite_true, ite_false, implies_true, walkS, tabS, Tryd.results16]
  refine callK (den_l00Max (lossV O L G[k]) (lossV P Q G[k])) (by first | exact .inl rfl | exact .inr rfl) ?_
  simp (config := { maxSteps := 1000000 }) +decide only [NoH, Old, OldL, nilQ, nilA, asgn, nz, RechL, ReY, isNew, stepO, XPost, postN, XOk, updN, updU, isEff, avalue, aeff, ASt.eval, ASt.put, ASt.set, ASt.new, Nat.reduceDiv, Nat.reduceAdd, Int.reduceToNat, absV, absC, scalar, alen, acap, conc, flats, live, blkOf, aload, rd, part?, afieldAddr, afield, aindexAddr, cellsOf, afill, places, abuild, optI, asliceV, asliceS, szOk, srcCells, aappend, acopy, astore, amakeSlice, abuildSlice, snapL, mapO, treeL, AVal.tree, AVal.flatT, isFlat, ares, isFz, afroz, afrozB, lookupA, lookupH, tops, if_true, if_false, reduceCtorEq, forall_const, ite_true, ite_false, implies_true, walkS, tabS, Tryd.results16, wk, h8, tk2, lm, q1, List.replicate_succ, List.flatten_cons, List.flatten_nil, mapC_snocM, sn, List.length_set, List.length_replicate]
  refine ⟨⟨(k + 1, G1, G1 + 1), hlt⟩, ?_, by show G.length - (k + 1) < G.length - k; omega⟩
  refine weak_mk rfl (by first | exact Nat.le_refl _ | (simp only [mk_gen]; omega)) ?_ ?_ <;> simp +decide only [w_lookup_nil, w_lookup_cons, ch_ch, ch_lit, lit_ch, wkT, wkH, wkB, WVL, WV_refl', Int.natCast_zero, Int.natCast_add, Int.natCast_one, Nat.sub_self, Nat.sub_zero, List.replicate_zero, List.take_zero, List.nil_append, List.append_nil, fillC_zero, Nat.reduceDiv, Nat.reduceAdd, upd_bk, bk_at, getB_zero, getB_succ, modB_zero, modB_succ, rows_lit, repB_zero, repB_succ, List.length_cons, List.length_nil, upd_upd_same, upd_apply, mk_tmp, mk_heap, mk_gen, lookupA, lookupH, List.getD_cons_zero, List.getD_cons_succ, init_two, tops, Bool.true_and, and_self, and_true, true_and, true_or, if_true, if_false, ite_true, ite_false, reduceCtorEq, reduceIte]
end Go.Proofs.YtiaemddmkmfijaaDoor
