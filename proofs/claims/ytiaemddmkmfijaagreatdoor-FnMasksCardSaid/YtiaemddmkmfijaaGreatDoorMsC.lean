/-
  OWN WORK: masks that are drawn.
-/
import Derived.Test.YtiaemddmkmfijaaGreatDoorMsB
namespace Go.Proofs.YtiaemddmkmfijaaGreatDoor
open Go Go.Own Go.Proofs
set_option maxHeartbeats 4000000
set_option maxRecDepth 20000
set_option linter.unusedSimpArgs false
set_option linter.unusedVariables false
theorem mk_three {w z : Int} (hw : 2 ≤ w ∧ w ≤ 100000) (hz : 0 ≤ z ∧ z ≤ 120000) : MkOk [0, w / 2, w] [0, 0, z] := by
  refine ⟨by simp, by simp, rfl, rfl, rfl, ?_, ?_, ?_, ?_⟩
  · intro i h1 h2
    have : i = 1 ∨ i = 2 := by simp at h2; omega
    rcases this with rfl | rfl
    · show (0 : Int) < w / 2; omega
    · show w / 2 < w; omega
  · intro x hx
    simp only [List.mem_cons, List.not_mem_nil, or_false] at hx
    omega
  · intro i h1 h2
    have : i = 1 ∨ i = 2 := by simp at h2; omega
    rcases this with rfl | rfl
    · show (0 : Int) ≤ 0; omega
    · show (0 : Int) ≤ z; omega
  · intro x hx
    simp only [List.mem_cons, List.not_mem_nil, or_false] at hx
    omega
theorem den_l08Channel (w z : Int) (hw : 2 ≤ w ∧ w ≤ 100000) : Den Tryz.prog 134 [.i w, .i z] (mkV [0, w / 2, w] [0, 0, z]) := by
  refine den_of_awpG (ghs [] [8, 10]) Tryz.func134 rfl (by kernel_rfl) (Nat.le_of_ble_eq_true rfl) (by simp only [treeL, AVal.tree, treeL_i, treeL_ints, treeL_u8, treeL_append, Bool.and_self, Bool.and_true, Bool.true_and]) (by first | rfl | simp only [treeL, AVal.tree, treeL_i, treeL_ints, treeL_u8, treeL_append, Bool.and_self, Bool.and_true, Bool.true_and]) mixed (by kernel_rfl) fun hl => ?_
  simp only [lensL, lens, lensL_i, lensL_mapC, maxI, and_true, true_and] at hl
  rw [Tryz.ntmps134]
  refine ex_start ?_
  have e : w.tdiv 2 = w / 2 := Int.tdiv_eq_ediv_of_nonneg (by omega)
  have w1 : IntKind.i64.wrap (w / 2) = w / 2 := wrap64 (by omega) (by omega)
  have q1 : ∀ a b c : Int, (((List.replicate 3 (0 : Int)).set 0 a).set 1 b).set 2 c = [a, b, c] := fun _ _ _ => rfl
  simp (config := { maxSteps := 1000000 }) +decide only [NoH, Old, OldL, nilQ, nilA, asgn, nz, RechL, ReY, isNew, stepO, XPost, postN, XOk, updN, updU, isEff, avalue, aeff, ASt.eval, ASt.put, ASt.set, ASt.new, Nat.reduceDiv, Nat.reduceAdd, Int.reduceToNat, absV, absC, scalar, alen, acap, conc, flats, live, blkOf, aload, rd, part?, afieldAddr, afield, aindexAddr, cellsOf, afill, places, abuild, optI, asliceV, asliceS, szOk, srcCells, aappend, acopy, astore, amakeSlice, abuildSlice, snapL, mapO, treeL, AVal.tree, AVal.flatT, isFlat, ares, isFz, afroz, afrozB, lookupA, lookupH, tops, if_true, if_false, reduceCtorEq, forall_const, ite_true, ite_false, implies_true, walkS, tabS, Tryz.results134, sem_quo, e, w1, q1, List.length_set, List.length_replicate]
  rfl
/-- a mask while it is drawn -/
structure MkQ (O L : List Int) : Prop where
  n1 : 1 ≤ O.length
  n12 : O.length ≤ 12
  eq : L.length = O.length
  o0 : O.getD 0 0 = 0
  l0 : L.getD 0 0 = 0
  inc : ∀ i, 0 < i → i < O.length → O.getD (i - 1) 0 < O.getD i 0
  oM : ∀ x ∈ O, 0 ≤ x ∧ x ≤ 300 * ((O.length : Int) - 1)
  srt : ∀ i, 0 < i → i < O.length → L.getD (i - 1) 0 ≤ L.getD i 0
  lM : ∀ x ∈ L, 0 ≤ x ∧ x ≤ 120000
theorem MkQ.ok {O L : List Int} (h : MkQ O L) (h2 : 2 ≤ O.length) : MkOk O L :=
  ⟨h2, h.n12, h.eq, h.o0, h.l0, h.inc, fun x hx => by have := h.oM x hx; have := h.n12; omega, h.srt, h.lM⟩
theorem gS {L : List Int} {x : Int} {i : Nat} (hi : i < L.length) : (L ++ [x]).getD i 0 = L.getD i 0 := by
  rw [gD0 hi, gD0 (by simp; omega), List.getElem_append_left hi]
theorem gE {L : List Int} {x : Int} {n : Nat} (h : L.length = n) : (L ++ [x]).getD n 0 = x := by
  subst h
  rw [gD0 (by simp)]
  simp
theorem MkQ.snoc {O L : List Int} (h : MkQ O L) (hl : O.length < 12) {x y : Int} (hx : O.getD (O.length - 1) 0 + 1 ≤ x ∧ x ≤ O.getD (O.length - 1) 0 + 300) (hy : L.getD (O.length - 1) 0 ≤ y ∧ y ≤ 120000) : MkQ (O ++ [x]) (L ++ [y]) := by
  have n1 := h.n1
  have eq := h.eq
  have mo := h.oM (O.getD (O.length - 1) 0) (by rw [gD0 (by omega)]; exact List.getElem_mem _)
  have ml := h.lM (L.getD (O.length - 1) 0) (by rw [gD0 (by omega)]; exact List.getElem_mem _)
  refine ⟨by simp, by simp; omega, by simp; omega, ?_, ?_, fun i h1 h2 => ?_, fun z hz => ?_, fun i h1 h2 => ?_, fun z hz => ?_⟩
  · rw [gS (by omega)]; exact h.o0
  · rw [gS (by omega)]; exact h.l0
  · have h2' : i < O.length + 1 := by simpa using h2
    by_cases e : i = O.length
    · subst e
      rw [gS (by omega), gE rfl]
      omega
    · rw [gS (by omega), gS (by omega)]
      exact h.inc i h1 (by omega)
  · simp only [List.length_append, List.length_cons, List.length_nil]
    rcases List.mem_append.1 hz with hz | hz
    · have := h.oM z hz; omega
    · simp only [List.mem_singleton] at hz; omega
  · have h2' : i < O.length + 1 := by simpa using h2
    by_cases e : i = O.length
    · subst e
      rw [gS (by omega), gE eq]
      omega
    · rw [gS (by omega), gS (by omega)]
      exact h.srt i h1 (by omega)
  · rcases List.mem_append.1 hz with hz | hz
    · exact h.lM z hz
    · simp only [List.mem_singleton] at hz; omega
theorem mkq_0 : MkQ [0] [0] := ⟨by simp, by simp, rfl, rfl, rfl, fun i h1 h2 => by simp at h2; omega, by simp, fun i h1 h2 => by simp at h2; omega, by simp⟩
theorem mapC_snocM (L : List Int) (x : Int) : mapC AVal.i L ++ [AVal.i x] = mapC AVal.i (L ++ [x]) := by simp [mapC]
theorem frz_intsM {s s' : ASt} {β g : Nat} {xs : List Int} {n : Nat} (hn : xs.length = n) (h1 : s.heap β = some ⟨g, 1, mapC AVal.i xs⟩) (h3 : s'.heap β = none) : WV s s' (.own β g 0 n) (.lst (mapC AVal.i xs) n) :=
  WV_frz h1 rfl h3 (by simp [mapC, hn]) (by rw [List.drop_zero]; exact (List.take_of_length_le (by simp [mapC, hn])).symm) (treeL_i _)
theorem deny_l08Draw {bs : List Int} (hb : Byt bs) (s : SrcS) (hs : s.1 ≤ 1000) : DenY Tryz.prog 93 [srcX bs s] (fun i : SrcS × List Int × List Int => i.1.1 ≤ s.1 + 100 ∧ MkOk i.2.1 i.2.2) (fun i => [srcX bs i.1]) (fun i => .v (mkV i.2.1 i.2.2)) := by
  refine denY_of_awpG (ghs [] [9, 39, 53]) Tryz.func93 rfl (by kernel_rfl) (Nat.le_of_ble_eq_true rfl) (by simp +decide only [w_embA_nil, w_embA_cons, w_emb_v, w_emb_ol, w_emb_op, w_emb_agg, w_emb_tup, w_embL_nil, w_embL_cons, embL_i, List.map_cons, List.map_nil, List.nil_append, List.append_nil, List.cons_append, List.nodup_cons, List.nodup_nil, List.mem_cons, List.mem_nil_iff, List.not_mem_nil, ch_ch, ch_lit, lit_ch, Nat.reduceAdd]) mixed (by kernel_rfl) fun hl => ?_
  simp only [xlensL, xlens, lensL, lens, lensL_i, lensL_mapC, xlensL_i, maxI, and_true, true_and] at hl
  rw [Tryz.ntmps93]
  refine ex_start ?_
  simp (config := { maxSteps := 1000000 }) +decide only [NoH, Old, OldL, nilQ, nilA, asgn, nz, RechL, ReY, isNew, stepO, XPost, postN, XOk, updN, updU, isEff, avalue, aeff, ASt.eval, ASt.put, ASt.set, ASt.new, Nat.reduceDiv, Nat.reduceAdd, Int.reduceToNat, absV, absC, scalar, alen, acap, conc, flats, live, blkOf, aload, rd, part?, afieldAddr, afield, aindexAddr, cellsOf, afill, places, abuild, optI, asliceV, asliceS, szOk, srcCells, aappend, acopy, astore, amakeSlice, abuildSlice, snapL, mapO, treeL, AVal.tree, AVal.flatT, isFlat, ares, isFz, afroz, afrozB, lookupA, lookupH, tops, if_true, if_false, reduceCtorEq, forall_const, ite_true, ite_false, implies_true, walkS, tabS, Tryz.results93]
  refine callY (deny_one hb 3 s (by omega)) (by simp (config := { maxSteps := 1000000 }) +decide only [NoH, Old, OldL, nilQ, nilA, asgn, nz, RechL, ReY, isNew, stepO, XPost, postN, XOk, updN, updU, isEff, avalue, aeff, ASt.eval, ASt.put, ASt.set, ASt.new, Nat.reduceDiv, Nat.reduceAdd, Int.reduceToNat, absV, absC, scalar, alen, acap, conc, flats, live, blkOf, aload, rd, part?, afieldAddr, afield, aindexAddr, cellsOf, afill, places, abuild, optI, asliceV, asliceS, szOk, srcCells, aappend, acopy, astore, amakeSlice, abuildSlice, snapL, mapO, treeL, AVal.tree, AVal.flatT, isFlat, ares, isFz, afroz, afrozB, lookupA, lookupH, tops, if_true, if_false, reduceCtorEq, forall_const, ite_true, ite_false, implies_true, walkS, tabS, Tryz.results93]) (fun i hi => by simp (config := { maxSteps := 1000000 }) +decide only [NoH, Old, OldL, nilQ, nilA, asgn, nz, RechL, ReY, isNew, stepO, XPost, postN, XOk, updN, updU, isEff, avalue, aeff, ASt.eval, ASt.put, ASt.set, ASt.new, Nat.reduceDiv, Nat.reduceAdd, Int.reduceToNat, absV, absC, scalar, alen, acap, conc, flats, live, blkOf, aload, rd, part?, afieldAddr, afield, aindexAddr, cellsOf, afill, places, abuild, optI, asliceV, asliceS, szOk, srcCells, aappend, acopy, astore, amakeSlice, abuildSlice, snapL, mapO, treeL, AVal.tree, AVal.flatT, isFlat, ares, isFz, afroz, afrozB, lookupA, lookupH, tops, if_true, if_false, reduceCtorEq, forall_const, ite_true, ite_false, implies_true, walkS, tabS, Tryz.results93]) ?_
  rintro ⟨s1, yes⟩ p1
  have p1' : s1.1 ≤ s.1 + 2 := p1
  cases yes
  case true =>
    have q5 : ∀ a b c d e : Int, (((((List.replicate 5 (0 : Int)).set 0 a).set 1 b).set 2 c).set 3 d).set 4 e = [a, b, c, d, e] := fun _ _ _ _ _ => rfl
    simp (config := { maxSteps := 1000000 }) +decide only [NoH, Old, OldL, nilQ, nilA, asgn, nz, RechL, ReY, isNew, stepO, XPost, postN, XOk, updN, updU, isEff, avalue, aeff, ASt.eval, ASt.put, ASt.set, ASt.new, Nat.reduceDiv, Nat.reduceAdd, Int.reduceToNat, absV, absC, scalar, alen, acap, conc, flats, live, blkOf, aload, rd, part?, afieldAddr, afield, aindexAddr, cellsOf, afill, places, abuild, optI, asliceV, asliceS, szOk, srcCells, aappend, acopy, astore, amakeSlice, abuildSlice, snapL, mapO, treeL, AVal.tree, AVal.flatT, isFlat, ares, isFz, afroz, afrozB, lookupA, lookupH, tops, if_true, if_false, reduceCtorEq, forall_const, ite_true, ite_false, implies_true, walkS, tabS, Tryz.results93]
    refine callY (deny_among hb [2, 25, 200, 5000, 100000] (by simp) 5 rfl s1 (by omega)) (by simp (config := { maxSteps := 1000000 }) +decide only [NoH, Old, OldL, nilQ, nilA, asgn, nz, RechL, ReY, isNew, stepO, XPost, postN, XOk, updN, updU, isEff, avalue, aeff, ASt.eval, ASt.put, ASt.set, ASt.new, Nat.reduceDiv, Nat.reduceAdd, Int.reduceToNat, absV, absC, scalar, alen, acap, conc, flats, live, blkOf, aload, rd, part?, afieldAddr, afield, aindexAddr, cellsOf, afill, places, abuild, optI, asliceV, asliceS, szOk, srcCells, aappend, acopy, astore, amakeSlice, abuildSlice, snapL, mapO, treeL, AVal.tree, AVal.flatT, isFlat, ares, isFz, afroz, afrozB, lookupA, lookupH, tops, if_true, if_false, reduceCtorEq, forall_const, ite_true, ite_false, implies_true, walkS, tabS, Tryz.results93, q5, mapC_lit, mapC_nil]) (fun i hi => by simp (config := { maxSteps := 1000000 }) +decide only [NoH, Old, OldL, nilQ, nilA, asgn, nz, RechL, ReY, isNew, stepO, XPost, postN, XOk, updN, updU, isEff, avalue, aeff, ASt.eval, ASt.put, ASt.set, ASt.new, Nat.reduceDiv, Nat.reduceAdd, Int.reduceToNat, absV, absC, scalar, alen, acap, conc, flats, live, blkOf, aload, rd, part?, afieldAddr, afield, aindexAddr, cellsOf, afill, places, abuild, optI, asliceV, asliceS, szOk, srcCells, aappend, acopy, astore, amakeSlice, abuildSlice, snapL, mapO, treeL, AVal.tree, AVal.flatT, isFlat, ares, isFz, afroz, afrozB, lookupA, lookupH, tops, if_true, if_false, reduceCtorEq, forall_const, ite_true, ite_false, implies_true, walkS, tabS, Tryz.results93, q5, mapC_lit, mapC_nil]) ?_
    rintro ⟨s2, w⟩ ⟨e1, e2⟩
    have e1' : s2.1 ≤ s1.1 + 2 := e1
    have e2' : w ∈ [2, 25, 200, 5000, 100000] := e2
    have hw : 2 ≤ w ∧ w ≤ 100000 := by
      simp only [List.mem_cons, List.not_mem_nil, or_false] at e2'
      omega
    simp (config := { maxSteps := 1000000 }) +decide only [NoH, Old, OldL, nilQ, nilA, asgn, nz, RechL, ReY, isNew, stepO, XPost, postN, XOk, updN, updU, isEff, avalue, aeff, ASt.eval, ASt.put, ASt.set, ASt.new, Nat.reduceDiv, Nat.reduceAdd, Int.reduceToNat, absV, absC, scalar, alen, acap, conc, flats, live, blkOf, aload, rd, part?, afieldAddr, afield, aindexAddr, cellsOf, afill, places, abuild, optI, asliceV, asliceS, szOk, srcCells, aappend, acopy, astore, amakeSlice, abuildSlice, snapL, mapO, treeL, AVal.tree, AVal.flatT, isFlat, ares, isFz, afroz, afrozB, lookupA, lookupH, tops, if_true, if_false, reduceCtorEq, forall_const, ite_true, ite_false, implies_true, walkS, tabS, Tryz.results93]
    refine callK (den_l08Channel w 60000 hw) (by first | exact .inl rfl | exact .inr rfl) ?_
    simp (config := { maxSteps := 1000000 }) +decide only [NoH, Old, OldL, nilQ, nilA, asgn, nz, RechL, ReY, isNew, stepO, XPost, postN, XOk, updN, updU, isEff, avalue, aeff, ASt.eval, ASt.put, ASt.set, ASt.new, Nat.reduceDiv, Nat.reduceAdd, Int.reduceToNat, absV, absC, scalar, alen, acap, conc, flats, live, blkOf, aload, rd, part?, afieldAddr, afield, aindexAddr, cellsOf, afill, places, abuild, optI, asliceV, asliceS, szOk, srcCells, aappend, acopy, astore, amakeSlice, abuildSlice, snapL, mapO, treeL, AVal.tree, AVal.flatT, isFlat, ares, isFz, afroz, afrozB, lookupA, lookupH, tops, if_true, if_false, reduceCtorEq, forall_const, ite_true, ite_false, implies_true, walkS, tabS, Tryz.results93]
    refine yret (s2, [0, w / 2, w], [0, 0, 60000]) ⟨by show s2.1 ≤ _; omega, mk_three hw (by omega)⟩ ?_
    simp (config := { maxSteps := 1000000 }) +decide only [NoH, Old, OldL, nilQ, nilA, asgn, nz, RechL, ReY, isNew, stepO, XPost, postN, XOk, updN, updU, isEff, avalue, aeff, ASt.eval, ASt.put, ASt.set, ASt.new, Nat.reduceDiv, Nat.reduceAdd, Int.reduceToNat, absV, absC, scalar, alen, acap, conc, flats, live, blkOf, aload, rd, part?, afieldAddr, afield, aindexAddr, cellsOf, afill, places, abuild, optI, asliceV, asliceS, szOk, srcCells, aappend, acopy, astore, amakeSlice, abuildSlice, snapL, mapO, treeL, AVal.tree, AVal.flatT, isFlat, ares, isFz, afroz, afrozB, lookupA, lookupH, tops, if_true, if_false, reduceCtorEq, forall_const, ite_true, ite_false, implies_true, walkS, tabS, Tryz.results93]
    rfl
  case false =>
    have q1 : ∀ c : Int, (List.replicate 1 (0 : Int)).set 0 c = [c] := fun _ => rfl
    simp (config := { maxSteps := 1000000 }) +decide only [NoH, Old, OldL, nilQ, nilA, asgn, nz, RechL, ReY, isNew, stepO, XPost, postN, XOk, updN, updU, isEff, avalue, aeff, ASt.eval, ASt.put, ASt.set, ASt.new, Nat.reduceDiv, Nat.reduceAdd, Int.reduceToNat, absV, absC, scalar, alen, acap, conc, flats, live, blkOf, aload, rd, part?, afieldAddr, afield, aindexAddr, cellsOf, afill, places, abuild, optI, asliceV, asliceS, szOk, srcCells, aappend, acopy, astore, amakeSlice, abuildSlice, snapL, mapO, treeL, AVal.tree, AVal.flatT, isFlat, ares, isFz, afroz, afrozB, lookupA, lookupH, tops, if_true, if_false, reduceCtorEq, forall_const, ite_true, ite_false, implies_true, walkS, tabS, Tryz.results93, q1]
    refine callY (deny_pick hb 5 s1 (by omega)) (by simp (config := { maxSteps := 1000000 }) +decide only [NoH, Old, OldL, nilQ, nilA, asgn, nz, RechL, ReY, isNew, stepO, XPost, postN, XOk, updN, updU, isEff, avalue, aeff, ASt.eval, ASt.put, ASt.set, ASt.new, Nat.reduceDiv, Nat.reduceAdd, Int.reduceToNat, absV, absC, scalar, alen, acap, conc, flats, live, blkOf, aload, rd, part?, afieldAddr, afield, aindexAddr, cellsOf, afill, places, abuild, optI, asliceV, asliceS, szOk, srcCells, aappend, acopy, astore, amakeSlice, abuildSlice, snapL, mapO, treeL, AVal.tree, AVal.flatT, isFlat, ares, isFz, afroz, afrozB, lookupA, lookupH, tops, if_true, if_false, reduceCtorEq, forall_const, ite_true, ite_false, implies_true, walkS, tabS, Tryz.results93]) (fun i hi => by simp (config := { maxSteps := 1000000 }) +decide only [NoH, Old, OldL, nilQ, nilA, asgn, nz, RechL, ReY, isNew, stepO, XPost, postN, XOk, updN, updU, isEff, avalue, aeff, ASt.eval, ASt.put, ASt.set, ASt.new, Nat.reduceDiv, Nat.reduceAdd, Int.reduceToNat, absV, absC, scalar, alen, acap, conc, flats, live, blkOf, aload, rd, part?, afieldAddr, afield, aindexAddr, cellsOf, afill, places, abuild, optI, asliceV, asliceS, szOk, srcCells, aappend, acopy, astore, amakeSlice, abuildSlice, snapL, mapO, treeL, AVal.tree, AVal.flatT, isFlat, ares, isFz, afroz, afrozB, lookupA, lookupH, tops, if_true, if_false, reduceCtorEq, forall_const, ite_true, ite_false, implies_true, walkS, tabS, Tryz.results93]) ?_
    rintro ⟨s2, m⟩ ⟨e1, e2, e3⟩
    have e1' : s2.1 ≤ s1.1 + 2 := e1
    have e2' : 0 ≤ m := e2
    have e3' : m < 5 := e3 (by omega)
    obtain ⟨n, hn, hn1, hn2⟩ : ∃ n : Nat, 1 + m = n ∧ 1 ≤ n ∧ n ≤ 5 := ⟨(1 + m).toNat, by omega, by omega, by omega⟩
    have w1 : IntKind.i64.wrap (1 + m) = (n : Int) := (wrap64 (by omega) (by omega)).trans hn
    simp (config := { maxSteps := 1000000 }) +decide only [NoH, Old, OldL, nilQ, nilA, asgn, nz, RechL, ReY, isNew, stepO, XPost, postN, XOk, updN, updU, isEff, avalue, aeff, ASt.eval, ASt.put, ASt.set, ASt.new, Nat.reduceDiv, Nat.reduceAdd, Int.reduceToNat, absV, absC, scalar, alen, acap, conc, flats, live, blkOf, aload, rd, part?, afieldAddr, afield, aindexAddr, cellsOf, afill, places, abuild, optI, asliceV, asliceS, szOk, srcCells, aappend, acopy, astore, amakeSlice, abuildSlice, snapL, mapO, treeL, AVal.tree, AVal.flatT, isFlat, ares, isFz, afroz, afrozB, lookupA, lookupH, tops, if_true, if_false, reduceCtorEq, forall_const, ite_true, ite_false, implies_true, walkS, tabS, Tryz.results93, w1]
    refine callY (deny_one hb 8 s2 (by omega)) (by simp (config := { maxSteps := 1000000 }) +decide only [NoH, Old, OldL, nilQ, nilA, asgn, nz, RechL, ReY, isNew, stepO, XPost, postN, XOk, updN, updU, isEff, avalue, aeff, ASt.eval, ASt.put, ASt.set, ASt.new, Nat.reduceDiv, Nat.reduceAdd, Int.reduceToNat, absV, absC, scalar, alen, acap, conc, flats, live, blkOf, aload, rd, part?, afieldAddr, afield, aindexAddr, cellsOf, afill, places, abuild, optI, asliceV, asliceS, szOk, srcCells, aappend, acopy, astore, amakeSlice, abuildSlice, snapL, mapO, treeL, AVal.tree, AVal.flatT, isFlat, ares, isFz, afroz, afrozB, lookupA, lookupH, tops, if_true, if_false, reduceCtorEq, forall_const, ite_true, ite_false, implies_true, walkS, tabS, Tryz.results93]) (fun i hi => by simp (config := { maxSteps := 1000000 }) +decide only [NoH, Old, OldL, nilQ, nilA, asgn, nz, RechL, ReY, isNew, stepO, XPost, postN, XOk, updN, updU, isEff, avalue, aeff, ASt.eval, ASt.put, ASt.set, ASt.new, Nat.reduceDiv, Nat.reduceAdd, Int.reduceToNat, absV, absC, scalar, alen, acap, conc, flats, live, blkOf, aload, rd, part?, afieldAddr, afield, aindexAddr, cellsOf, afill, places, abuild, optI, asliceV, asliceS, szOk, srcCells, aappend, acopy, astore, amakeSlice, abuildSlice, snapL, mapO, treeL, AVal.tree, AVal.flatT, isFlat, ares, isFz, afroz, afrozB, lookupA, lookupH, tops, if_true, if_false, reduceCtorEq, forall_const, ite_true, ite_false, implies_true, walkS, tabS, Tryz.results93]) ?_
    rintro ⟨s3, yes⟩ p3
    have p3' : s3.1 ≤ s2.1 + 2 := p3
    cases yes
    case' false =>
      simp (config := { maxSteps := 1000000 }) +decide only [NoH, Old, OldL, nilQ, nilA, asgn, nz, RechL, ReY, isNew, stepO, XPost, postN, XOk, updN, updU, isEff, avalue, aeff, ASt.eval, ASt.put, ASt.set, ASt.new, Nat.reduceDiv, Nat.reduceAdd, Int.reduceToNat, absV, absC, scalar, alen, acap, conc, flats, live, blkOf, aload, rd, part?, afieldAddr, afield, aindexAddr, cellsOf, afill, places, abuild, optI, asliceV, asliceS, szOk, srcCells, aappend, acopy, astore, amakeSlice, abuildSlice, snapL, mapO, treeL, AVal.tree, AVal.flatT, isFlat, ares, isFz, afroz, afrozB, lookupA, lookupH, tops, if_true, if_false, reduceCtorEq, forall_const, ite_true, ite_false, implies_true, walkS, tabS, Tryz.results93]
      refine ex_loop (fun p : {p : Nat × SrcS × List Int × List Int × Nat × Nat × Nat // (2 ≤ p.1 + p.2.2.1.length ∧ p.1 + p.2.2.1.length ≤ 12) ∧ p.2.1.1 ≤ s.1 + 6 + 4 * p.2.2.1.length ∧ MkQ p.2.2.1 p.2.2.2.1} => mkG (ghs [] [9, 39, 53]) [(0, .ptr 0 0 0), (2, .ptr 2 1 0), (3, .ptr 3 5 0), (4, .i p.1.1)] [(0, ⟨0, 3, [bytesV bs, .i p.1.2.1.1, .u64 p.1.2.1.2]⟩), (2, ⟨1, 2, [.nl, .nl]⟩), (3, ⟨5, 2, [.own 12 p.1.2.2.2.2.1 0 p.1.2.2.1.length, .own 13 p.1.2.2.2.2.2.1 0 p.1.2.2.1.length]⟩), (12, ⟨p.1.2.2.2.2.1, 1, mapC AVal.i p.1.2.2.1⟩), (13, ⟨p.1.2.2.2.2.2.1, 1, mapC AVal.i p.1.2.2.2.1⟩)] p.1.2.2.2.2.2.2 57) (fun p => p.1.1) ⟨(n, s3, [0], [0], 3, 4, 8), by simp; omega, by show s3.1 ≤ s.1 + 6 + 4 * 1; omega, mkq_0⟩ ?_ ?_
      · refine weak_mk rfl (by first | exact Nat.le_refl _ | (simp only [mk_gen]; omega)) ?_ ?_ <;> simp +decide only [w_lookup_nil, w_lookup_cons, ch_ch, ch_lit, lit_ch, wkT, wkH, wkB, WVL, WV_refl', Int.natCast_zero, Int.natCast_add, Int.natCast_one, Nat.sub_self, Nat.sub_zero, List.replicate_zero, List.take_zero, List.nil_append, List.append_nil, fillC_zero, Nat.reduceDiv, Nat.reduceAdd, upd_bk, bk_at, getB_zero, getB_succ, modB_zero, modB_succ, rows_lit, repB_zero, repB_succ, List.length_cons, List.length_nil, upd_upd_same, upd_apply, mk_tmp, mk_heap, mk_gen, lookupA, lookupH, List.getD_cons_zero, List.getD_cons_succ, init_two, tops, Bool.true_and, and_self, and_true, true_and, true_or, if_true, if_false, ite_true, ite_false, reduceCtorEq, reduceIte]
    case' true =>
      simp (config := { maxSteps := 1000000 }) +decide only [NoH, Old, OldL, nilQ, nilA, asgn, nz, RechL, ReY, isNew, stepO, XPost, postN, XOk, updN, updU, isEff, avalue, aeff, ASt.eval, ASt.put, ASt.set, ASt.new, Nat.reduceDiv, Nat.reduceAdd, Int.reduceToNat, absV, absC, scalar, alen, acap, conc, flats, live, blkOf, aload, rd, part?, afieldAddr, afield, aindexAddr, cellsOf, afill, places, abuild, optI, asliceV, asliceS, szOk, srcCells, aappend, acopy, astore, amakeSlice, abuildSlice, snapL, mapO, treeL, AVal.tree, AVal.flatT, isFlat, ares, isFz, afroz, afrozB, lookupA, lookupH, tops, if_true, if_false, reduceCtorEq, forall_const, ite_true, ite_false, implies_true, walkS, tabS, Tryz.results93]
      refine ex_loop (fun p : {p : Nat × SrcS × List Int × List Int × Nat × Nat × Nat // (2 ≤ p.1 + p.2.2.1.length ∧ p.1 + p.2.2.1.length ≤ 12) ∧ p.2.1.1 ≤ s.1 + 6 + 4 * p.2.2.1.length ∧ MkQ p.2.2.1 p.2.2.2.1} => mkG (ghs [] [9, 39, 53]) [(0, .ptr 0 0 0), (2, .ptr 2 1 0), (3, .ptr 3 5 0), (4, .i p.1.1)] [(0, ⟨0, 3, [bytesV bs, .i p.1.2.1.1, .u64 p.1.2.1.2]⟩), (2, ⟨1, 2, [.nl, .nl]⟩), (3, ⟨5, 2, [.own 12 p.1.2.2.2.2.1 0 p.1.2.2.1.length, .own 13 p.1.2.2.2.2.2.1 0 p.1.2.2.1.length]⟩), (12, ⟨p.1.2.2.2.2.1, 1, mapC AVal.i p.1.2.2.1⟩), (13, ⟨p.1.2.2.2.2.2.1, 1, mapC AVal.i p.1.2.2.2.1⟩)] p.1.2.2.2.2.2.2 57) (fun p => p.1.1) ⟨(11, s3, [0], [0], 3, 4, 8), by simp, by show s3.1 ≤ s.1 + 6 + 4 * 1; omega, mkq_0⟩ ?_ ?_
      · have e11 : ((11 : Nat) : Int) = 11 := rfl
        refine weak_mk rfl (by first | exact Nat.le_refl _ | (simp only [mk_gen]; omega)) ?_ ?_ <;> simp +decide only [w_lookup_nil, w_lookup_cons, ch_ch, ch_lit, lit_ch, wkT, wkH, wkB, WVL, WV_refl', Int.natCast_zero, Int.natCast_add, Int.natCast_one, Nat.sub_self, Nat.sub_zero, List.replicate_zero, List.take_zero, List.nil_append, List.append_nil, fillC_zero, Nat.reduceDiv, Nat.reduceAdd, upd_bk, bk_at, getB_zero, getB_succ, modB_zero, modB_succ, rows_lit, repB_zero, repB_succ, List.length_cons, List.length_nil, upd_upd_same, upd_apply, mk_tmp, mk_heap, mk_gen, lookupA, lookupH, List.getD_cons_zero, List.getD_cons_succ, init_two, tops, Bool.true_and, and_self, and_true, true_and, true_or, if_true, if_false, ite_true, ite_false, reduceCtorEq, reduceIte, e11]
    all_goals
      rintro ⟨⟨c, s4, O, L, g1, g2, G⟩, k1, k2, k3⟩
      have k1' : 2 ≤ c + O.length ∧ c + O.length ≤ 12 := k1
      have k2' : s4.1 ≤ s.1 + 6 + 4 * O.length := k2
      have k3' : MkQ O L := k3
      have eqL := k3'.eq
      by_cases hc : 0 < c
      case neg =>
        have hcI : ¬ (0 : Int) < (c : Int) := by omega
        simp (config := { maxSteps := 1000000 }) +decide only [NoH, Old, OldL, nilQ, nilA, asgn, nz, RechL, ReY, isNew, stepO, XPost, postN, XOk, updN, updU, isEff, avalue, aeff, ASt.eval, ASt.put, ASt.set, ASt.new, Nat.reduceDiv, Nat.reduceAdd, Int.reduceToNat, absV, absC, scalar, alen, acap, conc, flats, live, blkOf, aload, rd, part?, afieldAddr, afield, aindexAddr, cellsOf, afill, places, abuild, optI, asliceV, asliceS, szOk, srcCells, aappend, acopy, astore, amakeSlice, abuildSlice, snapL, mapO, treeL, AVal.tree, AVal.flatT, isFlat, ares, isFz, afroz, afrozB, lookupA, lookupH, tops, if_true, if_false, reduceCtorEq, forall_const, ite_true, ite_false, implies_true, walkS, tabS, Tryz.results93, eq_false hcI]
        refine yretW (s' := mkG (ghs [] [9, 39, 53]) [(0, .ptr 0 0 0), (2, .ptr 2 1 0)] [(0, ⟨0, 3, [bytesV bs, .i s4.1, .u64 s4.2]⟩), (2, ⟨1, 2, [ints O, .lst (mapC AVal.i L) O.length]⟩)] G 57) (.step ?_ (.refl _)) (s4, O, L) ⟨by show s4.1 ≤ _; omega, k3'.ok (by omega)⟩ ?_
        · refine weak_mk rfl (by first | exact Nat.le_refl _ | (simp only [mk_gen]; omega)) ?_ ?_ <;> simp +decide only [w_lookup_nil, w_lookup_cons, ch_ch, ch_lit, lit_ch, wkT, wkH, wkB, WVL, WV_refl', Int.natCast_zero, Int.natCast_add, Int.natCast_one, Nat.sub_self, Nat.sub_zero, List.replicate_zero, List.take_zero, List.nil_append, List.append_nil, fillC_zero, Nat.reduceDiv, Nat.reduceAdd, upd_bk, bk_at, getB_zero, getB_succ, modB_zero, modB_succ, rows_lit, repB_zero, repB_succ, List.length_cons, List.length_nil, upd_upd_same, upd_apply, mk_tmp, mk_heap, mk_gen, lookupA, lookupH, List.getD_cons_zero, List.getD_cons_succ, init_two, tops, Bool.true_and, and_self, and_true, true_and, true_or, if_true, if_false, ite_true, ite_false, reduceCtorEq, reduceIte]
          exact .inr ⟨frz_intsM rfl rfl rfl, frz_intsM eqL rfl rfl⟩
        · simp (config := { maxSteps := 1000000 }) +decide only [NoH, Old, OldL, nilQ, nilA, asgn, nz, RechL, ReY, isNew, stepO, XPost, postN, XOk, updN, updU, isEff, avalue, aeff, ASt.eval, ASt.put, ASt.set, ASt.new, Nat.reduceDiv, Nat.reduceAdd, Int.reduceToNat, absV, absC, scalar, alen, acap, conc, flats, live, blkOf, aload, rd, part?, afieldAddr, afield, aindexAddr, cellsOf, afill, places, abuild, optI, asliceV, asliceS, szOk, srcCells, aappend, acopy, astore, amakeSlice, abuildSlice, snapL, mapO, treeL, AVal.tree, AVal.flatT, isFlat, ares, isFz, afroz, afrozB, lookupA, lookupH, tops, if_true, if_false, reduceCtorEq, forall_const, ite_true, ite_false, implies_true, walkS, tabS, Tryz.results93, mkG]
          rw [show mkV O L = AVal.agg [.lst (mapC AVal.i O) O.length, .lst (mapC AVal.i L) L.length] from rfl, eqL]
      have hcI : (0 : Int) < (c : Int) := by omega
      have wc : IntKind.i64.wrap ((c : Int) - 1) = ((c - 1 : Nat) : Int) := (wrap64 (by omega) (by omega)).trans (by omega)
      have n1 := k3'.n1
      have wl : IntKind.i64.wrap ((O.length : Int) - 1) = ((O.length - 1 : Nat) : Int) := (wrap64 (by omega) (by omega)).trans (by omega)
      have c1 : O.length - 1 < O.length := by omega
      have c1I : ((O.length - 1 : Nat) : Int) < (O.length : Int) := by omega
      have c2 : O.length - 1 < L.length := by omega
      have gO := cellM c1
      have gL := cellM c2
      have bO := k3'.oM (O.getD (O.length - 1) 0) (by rw [gD0 c1]; exact List.getElem_mem _)
      have bL := k3'.lM (L.getD (O.length - 1) 0) (by rw [gD0 c2]; exact List.getElem_mem _)
      have tk : O.take O.length = O := List.take_length
      have le12 : O.length ≤ L.length := by omega
      have tkL : L.take O.length = L := List.take_of_length_le (by omega)
      have h8 : (O.length + 1) * 8 ≤ 140737488355328 := by omega
      have pv := pkV_in hb 300 s4
      have ps := pkS_le bs 300 s4
      simp (config := { maxSteps := 1000000 }) +decide only [NoH, Old, OldL, nilQ, nilA, asgn, nz, RechL, ReY, isNew, stepO, XPost, postN, XOk, updN, updU, isEff, avalue, aeff, ASt.eval, ASt.put, ASt.set, ASt.new, Nat.reduceDiv, Nat.reduceAdd, Int.reduceToNat, absV, absC, scalar, alen, acap, conc, flats, live, blkOf, aload, rd, part?, afieldAddr, afield, aindexAddr, cellsOf, afill, places, abuild, optI, asliceV, asliceS, szOk, srcCells, aappend, acopy, astore, amakeSlice, abuildSlice, snapL, mapO, treeL, AVal.tree, AVal.flatT, isFlat, ares, isFz, afroz, afrozB, lookupA, lookupH, tops, if_true, if_false, reduceCtorEq, forall_const, ite_true, ite_false, implies_true, walkS, tabS, Tryz.results93, eq_true hcI, wl, c1, c1I, gO]
      refine callX (denx_pick hb 300 s4 (by omega)) (by simp (config := { maxSteps := 1000000 }) +decide only [NoH, Old, OldL, nilQ, nilA, asgn, nz, RechL, ReY, isNew, stepO, XPost, postN, XOk, updN, updU, isEff, avalue, aeff, ASt.eval, ASt.put, ASt.set, ASt.new, Nat.reduceDiv, Nat.reduceAdd, Int.reduceToNat, absV, absC, scalar, alen, acap, conc, flats, live, blkOf, aload, rd, part?, afieldAddr, afield, aindexAddr, cellsOf, afill, places, abuild, optI, asliceV, asliceS, szOk, srcCells, aappend, acopy, astore, amakeSlice, abuildSlice, snapL, mapO, treeL, AVal.tree, AVal.flatT, isFlat, ares, isFz, afroz, afrozB, lookupA, lookupH, tops, if_true, if_false, reduceCtorEq, forall_const, ite_true, ite_false, implies_true, walkS, tabS, Tryz.results93]) ?_
      generalize pkV bs 300 s4 = v at pv ⊢
      generalize pkS bs 300 s4 = s5 at ps ⊢
      have pv2 : v < 300 := pv.2 (by omega)
      have w2 : IntKind.i64.wrap (O.getD (O.length - 1) 0 + 1) = O.getD (O.length - 1) 0 + 1 := wrap64 (by omega) (by omega)
      have w3 : IntKind.i64.wrap (O.getD (O.length - 1) 0 + 1 + v) = O.getD (O.length - 1) 0 + 1 + v := wrap64 (by omega) (by omega)
      have pv' := pkV_in hb 30000 s5
      have ps' := pkS_le bs 30000 s5
      simp (config := { maxSteps := 1000000 }) +decide only [NoH, Old, OldL, nilQ, nilA, asgn, nz, RechL, ReY, isNew, stepO, XPost, postN, XOk, updN, updU, isEff, avalue, aeff, ASt.eval, ASt.put, ASt.set, ASt.new, Nat.reduceDiv, Nat.reduceAdd, Int.reduceToNat, absV, absC, scalar, alen, acap, conc, flats, live, blkOf, aload, rd, part?, afieldAddr, afield, aindexAddr, cellsOf, afill, places, abuild, optI, asliceV, asliceS, szOk, srcCells, aappend, acopy, astore, amakeSlice, abuildSlice, snapL, mapO, treeL, AVal.tree, AVal.flatT, isFlat, ares, isFz, afroz, afrozB, lookupA, lookupH, tops, if_true, if_false, reduceCtorEq, forall_const, ite_true, ite_false, implies_true, walkS, tabS, Tryz.results93, wl, c1, c1I, c2, gO, gL, w2, w3, h8, tk, q1, List.replicate_succ, List.flatten_cons, List.flatten_nil, mapC_snocM, List.length_set, List.length_replicate]
      refine callX (denx_pick hb 30000 s5 (by omega)) (by simp (config := { maxSteps := 1000000 }) +decide only [NoH, Old, OldL, nilQ, nilA, asgn, nz, RechL, ReY, isNew, stepO, XPost, postN, XOk, updN, updU, isEff, avalue, aeff, ASt.eval, ASt.put, ASt.set, ASt.new, Nat.reduceDiv, Nat.reduceAdd, Int.reduceToNat, absV, absC, scalar, alen, acap, conc, flats, live, blkOf, aload, rd, part?, afieldAddr, afield, aindexAddr, cellsOf, afill, places, abuild, optI, asliceV, asliceS, szOk, srcCells, aappend, acopy, astore, amakeSlice, abuildSlice, snapL, mapO, treeL, AVal.tree, AVal.flatT, isFlat, ares, isFz, afroz, afrozB, lookupA, lookupH, tops, if_true, if_false, reduceCtorEq, forall_const, ite_true, ite_false, implies_true, walkS, tabS, Tryz.results93]) ?_
      generalize pkV bs 30000 s5 = u at pv' ⊢
      generalize pkS bs 30000 s5 = s6 at ps' ⊢
      have pu2 : u < 30000 := pv'.2 (by omega)
      have w5 : IntKind.i64.wrap (L.getD (O.length - 1) 0 + u) = L.getD (O.length - 1) 0 + u := wrap64 (by omega) (by omega)
      simp (config := { maxSteps := 1000000 }) +decide only [NoH, Old, OldL, nilQ, nilA, asgn, nz, RechL, ReY, isNew, stepO, XPost, postN, XOk, updN, updU, isEff, avalue, aeff, ASt.eval, ASt.put, ASt.set, ASt.new, Nat.reduceDiv, Nat.reduceAdd, Int.reduceToNat, absV, absC, scalar, alen, acap, conc, flats, live, blkOf, aload, rd, part?, afieldAddr, afield, aindexAddr, cellsOf, afill, places, abuild, optI, asliceV, asliceS, szOk, srcCells, aappend, acopy, astore, amakeSlice, abuildSlice, snapL, mapO, treeL, AVal.tree, AVal.flatT, isFlat, ares, isFz, afroz, afrozB, lookupA, lookupH, tops, if_true, if_false, reduceCtorEq, forall_const, ite_true, ite_false, implies_true, walkS, tabS, Tryz.results93, wl, c1, c1I, c2, gL, w5]
      refine callK (den_l00Min 120000 (L.getD (O.length - 1) 0 + u)) (by first | exact .inl rfl | exact .inr rfl) ?_
      simp (config := { maxSteps := 1000000 }) +decide only [NoH, Old, OldL, nilQ, nilA, asgn, nz, RechL, ReY, isNew, stepO, XPost, postN, XOk, updN, updU, isEff, avalue, aeff, ASt.eval, ASt.put, ASt.set, ASt.new, Nat.reduceDiv, Nat.reduceAdd, Int.reduceToNat, absV, absC, scalar, alen, acap, conc, flats, live, blkOf, aload, rd, part?, afieldAddr, afield, aindexAddr, cellsOf, afill, places, abuild, optI, asliceV, asliceS, szOk, srcCells, aappend, acopy, astore, amakeSlice, abuildSlice, snapL, mapO, treeL, AVal.tree, AVal.flatT, isFlat, ares, isFz, afroz, afrozB, lookupA, lookupH, tops, if_true, if_false, reduceCtorEq, forall_const, ite_true, ite_false, implies_true, walkS, tabS, Tryz.results93, wl, wc, c1, c1I, c2, gL, le12, h8, tkL, q1, List.replicate_succ, List.flatten_cons, List.flatten_nil, mapC_snocM, List.length_set, List.length_replicate]
      refine ⟨⟨(c - 1, s6, O ++ [O.getD (O.length - 1) 0 + 1 + v], L ++ [min 120000 (L.getD (O.length - 1) 0 + u)], G + 1, G + 1 + 1 + 1, G + 1 + 1 + 1 + 1), by simp; omega, by show s6.1 ≤ s.1 + 6 + 4 * (O ++ [_]).length; simp; omega, k3'.snoc (by omega) (by omega) (by omega)⟩, ?_, by show c - 1 < c; omega⟩
      refine weak_mk rfl (by first | exact Nat.le_refl _ | (simp only [mk_gen]; omega)) ?_ ?_ <;> simp +decide only [w_lookup_nil, w_lookup_cons, ch_ch, ch_lit, lit_ch, wkT, wkH, wkB, WVL, WV_refl', Int.natCast_zero, Int.natCast_add, Int.natCast_one, Nat.sub_self, Nat.sub_zero, List.replicate_zero, List.take_zero, List.nil_append, List.append_nil, fillC_zero, Nat.reduceDiv, Nat.reduceAdd, upd_bk, bk_at, getB_zero, getB_succ, modB_zero, modB_succ, rows_lit, repB_zero, repB_succ, List.length_cons, List.length_nil, upd_upd_same, upd_apply, mk_tmp, mk_heap, mk_gen, lookupA, lookupH, List.getD_cons_zero, List.getD_cons_succ, init_two, tops, Bool.true_and, and_self, and_true, true_and, true_or, if_true, if_false, ite_true, ite_false, reduceCtorEq, reduceIte, List.length_append, List.length_cons, List.length_nil, Nat.zero_add]
theorem deny_R8Mask {bs : List Int} (hb : Byt bs) : DenY Tryz.prog 42 [.v (bytesV bs)] (fun i : List Int × List Int => MkOk i.1 i.2) (fun _ => [.v (bytesV bs)]) (fun i => .v (mkV i.1 i.2)) := by
  refine denY_of_awpG (ghs [] []) Tryz.func42 rfl (by kernel_rfl) (Nat.le_of_ble_eq_true rfl) (by simp +decide only [w_embA_nil, w_embA_cons, w_emb_v, w_emb_ol, w_emb_op, w_emb_agg, w_emb_tup, w_embL_nil, w_embL_cons, embL_i, List.map_cons, List.map_nil, List.nil_append, List.append_nil, List.cons_append, List.nodup_cons, List.nodup_nil, List.mem_cons, List.mem_nil_iff, List.not_mem_nil, ch_ch, ch_lit, lit_ch, Nat.reduceAdd]) mixed (by kernel_rfl) fun hl => ?_
  simp only [xlensL, xlens, lensL, lens, lensL_i, lensL_mapC, xlensL_i, maxI, and_true, true_and] at hl
  rw [Tryz.ntmps42]
  refine ex_start ?_
  simp (config := { maxSteps := 1000000 }) +decide only [NoH, Old, OldL, nilQ, nilA, asgn, nz, RechL, ReY, isNew, stepO, XPost, postN, XOk, updN, updU, isEff, avalue, aeff, ASt.eval, ASt.put, ASt.set, ASt.new, Nat.reduceDiv, Nat.reduceAdd, Int.reduceToNat, absV, absC, scalar, alen, acap, conc, flats, live, blkOf, aload, rd, part?, afieldAddr, afield, aindexAddr, cellsOf, afill, places, abuild, optI, asliceV, asliceS, szOk, srcCells, aappend, acopy, astore, amakeSlice, abuildSlice, snapL, mapO, treeL, AVal.tree, AVal.flatT, isFlat, ares, isFz, afroz, afrozB, lookupA, lookupH, tops, if_true, if_false, reduceCtorEq, forall_const, ite_true, ite_false, implies_true, walkS, tabS, Tryz.results42]
  refine callX (denx_l00From bs) (by simp (config := { maxSteps := 1000000 }) +decide only [NoH, Old, OldL, nilQ, nilA, asgn, nz, RechL, ReY, isNew, stepO, XPost, postN, XOk, updN, updU, isEff, avalue, aeff, ASt.eval, ASt.put, ASt.set, ASt.new, Nat.reduceDiv, Nat.reduceAdd, Int.reduceToNat, absV, absC, scalar, alen, acap, conc, flats, live, blkOf, aload, rd, part?, afieldAddr, afield, aindexAddr, cellsOf, afill, places, abuild, optI, asliceV, asliceS, szOk, srcCells, aappend, acopy, astore, amakeSlice, abuildSlice, snapL, mapO, treeL, AVal.tree, AVal.flatT, isFlat, ares, isFz, afroz, afrozB, lookupA, lookupH, tops, if_true, if_false, reduceCtorEq, forall_const, ite_true, ite_false, implies_true, walkS, tabS, Tryz.results42]) ?_
  simp (config := { maxSteps := 1000000 }) +decide only [NoH, Old, OldL, nilQ, nilA, asgn, nz, RechL, ReY, isNew, stepO, XPost, postN, XOk, updN, updU, isEff, avalue, aeff, ASt.eval, ASt.put, ASt.set, ASt.new, Nat.reduceDiv, Nat.reduceAdd, Int.reduceToNat, absV, absC, scalar, alen, acap, conc, flats, live, blkOf, aload, rd, part?, afieldAddr, afield, aindexAddr, cellsOf, afill, places, abuild, optI, asliceV, asliceS, szOk, srcCells, aappend, acopy, astore, amakeSlice, abuildSlice, snapL, mapO, treeL, AVal.tree, AVal.flatT, isFlat, ares, isFz, afroz, afrozB, lookupA, lookupH, tops, if_true, if_false, reduceCtorEq, forall_const, ite_true, ite_false, implies_true, walkS, tabS, Tryz.results42]
  refine callY (deny_l08Draw hb (0, 0) (by omega)) (by simp (config := { maxSteps := 1000000 }) +decide only [NoH, Old, OldL, nilQ, nilA, asgn, nz, RechL, ReY, isNew, stepO, XPost, postN, XOk, updN, updU, isEff, avalue, aeff, ASt.eval, ASt.put, ASt.set, ASt.new, Nat.reduceDiv, Nat.reduceAdd, Int.reduceToNat, absV, absC, scalar, alen, acap, conc, flats, live, blkOf, aload, rd, part?, afieldAddr, afield, aindexAddr, cellsOf, afill, places, abuild, optI, asliceV, asliceS, szOk, srcCells, aappend, acopy, astore, amakeSlice, abuildSlice, snapL, mapO, treeL, AVal.tree, AVal.flatT, isFlat, ares, isFz, afroz, afrozB, lookupA, lookupH, tops, if_true, if_false, reduceCtorEq, forall_const, ite_true, ite_false, implies_true, walkS, tabS, Tryz.results42]) (fun i hi => by simp (config := { maxSteps := 1000000 }) +decide only [NoH, Old, OldL, nilQ, nilA, asgn, nz, RechL, ReY, isNew, stepO, XPost, postN, XOk, updN, updU, isEff, avalue, aeff, ASt.eval, ASt.put, ASt.set, ASt.new, Nat.reduceDiv, Nat.reduceAdd, Int.reduceToNat, absV, absC, scalar, alen, acap, conc, flats, live, blkOf, aload, rd, part?, afieldAddr, afield, aindexAddr, cellsOf, afill, places, abuild, optI, asliceV, asliceS, szOk, srcCells, aappend, acopy, astore, amakeSlice, abuildSlice, snapL, mapO, treeL, AVal.tree, AVal.flatT, isFlat, ares, isFz, afroz, afrozB, lookupA, lookupH, tops, if_true, if_false, reduceCtorEq, forall_const, ite_true, ite_false, implies_true, walkS, tabS, Tryz.results42]) ?_
  rintro ⟨s, O, L⟩ ⟨h1, h2⟩
  have h2' : MkOk O L := h2
  simp (config := { maxSteps := 1000000 }) +decide only [NoH, Old, OldL, nilQ, nilA, asgn, nz, RechL, ReY, isNew, stepO, XPost, postN, XOk, updN, updU, isEff, avalue, aeff, ASt.eval, ASt.put, ASt.set, ASt.new, Nat.reduceDiv, Nat.reduceAdd, Int.reduceToNat, absV, absC, scalar, alen, acap, conc, flats, live, blkOf, aload, rd, part?, afieldAddr, afield, aindexAddr, cellsOf, afill, places, abuild, optI, asliceV, asliceS, szOk, srcCells, aappend, acopy, astore, amakeSlice, abuildSlice, snapL, mapO, treeL, AVal.tree, AVal.flatT, isFlat, ares, isFz, afroz, afrozB, lookupA, lookupH, tops, if_true, if_false, reduceCtorEq, forall_const, ite_true, ite_false, implies_true, walkS, tabS, Tryz.results42]
  refine yret (O, L) h2' ?_
  simp (config := { maxSteps := 1000000 }) +decide only [NoH, Old, OldL, nilQ, nilA, asgn, nz, RechL, ReY, isNew, stepO, XPost, postN, XOk, updN, updU, isEff, avalue, aeff, ASt.eval, ASt.put, ASt.set, ASt.new, Nat.reduceDiv, Nat.reduceAdd, Int.reduceToNat, absV, absC, scalar, alen, acap, conc, flats, live, blkOf, aload, rd, part?, afieldAddr, afield, aindexAddr, cellsOf, afill, places, abuild, optI, asliceV, asliceS, szOk, srcCells, aappend, acopy, astore, amakeSlice, abuildSlice, snapL, mapO, treeL, AVal.tree, AVal.flatT, isFlat, ares, isFz, afroz, afrozB, lookupA, lookupH, tops, if_true, if_false, reduceCtorEq, forall_const, ite_true, ite_false, implies_true, walkS, tabS, Tryz.results42]
end Go.Proofs.YtiaemddmkmfijaaGreatDoor
