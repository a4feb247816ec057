/-
  OWN WORK: the program's assignment with the least span.
-/
import Derived.Test.YteempjinbolkaaaPsD
namespace Go.Proofs.Yteempjinbolkaaa
open Go Go.Own Go.Proofs
set_option maxHeartbeats 4000000
set_option maxRecDepth 20000
set_option linter.unusedSimpArgs false
set_option linter.unusedVariables false
set_option linter.unusedSectionVars false
section
variable {D A : List (List Int)} (h : PrD D A)
include h
theorem asg_ap {s : List Int} (hs : Asg D A s) {i k : Nat} (hi : i < s.length) (hk : k < s.length) (hne : i ≠ k) : ap A i k ≤ s[i] - s[k] ∨ ap A i k ≤ s[k] - s[i] := by
  have hl := h.len
  have hsl := hs.len
  have e := (ap_mem h (x := (i : Int)) (y := (k : Int)) ⟨by omega, by omega⟩ ⟨by omega, by omega⟩).2.2.2
  by_cases c : k < i
  · have := hs.part.far i hi k c
    unfold Near at this
    omega
  · have := hs.part.far k hk i (by omega)
    unfold Near at this
    omega
theorem sp_low {s : List Int} (hs : Asg D A s) {d : Int} (hd : d ∈ A.flatten) : ¬ Sp s (d - 1) := by
  intro hsp
  have hl := h.len
  have hsl := hs.len
  have hp := h.pos
  obtain ⟨l, hl1, hl2⟩ := List.mem_flatten.1 hd
  obtain ⟨i, hi, rfl⟩ := List.getElem_of_mem hl1
  obtain ⟨k, hk, rfl⟩ := List.getElem_of_mem hl2
  have hr := h.rl hi
  have h0 : 0 < s.length := by omega
  have h00 := hsp _ (List.getElem_mem h0) _ (List.getElem_mem h0)
  have hin := h.in3 hi hk
  have eap : ap A (i : Int) (k : Int) = A[i][k] := by
    unfold ap
    rw [Int.toNat_natCast, Int.toNat_natCast]
    exact gdd hi hk
  by_cases e : i = k
  · subst e
    have := h.dg hi hk
    omega
  · have hi2 : i < s.length := by omega
    have hk2 : k < s.length := by omega
    have a1 := asg_ap h hs hi2 hk2 e
    have a2 := hsp _ (List.getElem_mem hi2) _ (List.getElem_mem hk2)
    have a3 := hsp _ (List.getElem_mem hk2) _ (List.getElem_mem hi2)
    omega
theorem asg_dom {s : List Int} (hs : Asg D A s) : ∀ x ∈ s, x ∈ D.flatten := fun x hx => by
  obtain ⟨k, hk, rfl⟩ := List.getElem_of_mem hx
  have hsl := hs.len
  have hkD : k < D.length := by omega
  have := hs.part.dom k hk
  rw [List.getD_eq_getElem?_getD, List.getElem?_eq_getElem hkD, Option.getD_some] at this
  exact List.mem_flatten.2 ⟨D[k], List.getElem_mem hkD, this⟩
theorem dom_in : ∀ x ∈ D.flatten, 0 ≤ x ∧ x ≤ 999 := fun x hx => by
  obtain ⟨l, hl1, hl2⟩ := List.mem_flatten.1 hx
  obtain ⟨k, hk, rfl⟩ := List.getElem_of_mem hl2
  have := ((h.dom l hl1).up k hk).1
  omega
theorem flat_pos : 0 < D.flatten.length ∧ 0 < A.flatten.length := by
  have hp := h.pos
  have hl := h.len
  have hD : 0 < D.length := by omega
  have hA : 0 < A.length := by omega
  have h1 := (h.dom _ (List.getElem_mem hD)).pos
  have hr := h.rl hA
  have h2 : 0 < A[0].length := by omega
  exact ⟨List.length_pos_of_mem (List.mem_flatten.2 ⟨D[0], List.getElem_mem hD, List.getElem_mem (show 0 < D[0].length by omega)⟩), List.length_pos_of_mem (List.mem_flatten.2 ⟨A[0], List.getElem_mem hA, List.getElem_mem h2⟩)⟩
theorem flat_few : lens' D ≤ 90 ∧ lens' A ≤ 36 := by
  have hn6 := h.few
  have hlA := h.len
  have h1 : ∀ (m : Nat) (ls : List (List Int)), (∀ l ∈ ls, l.length ≤ m) → lens' ls ≤ m * ls.length := by
    intro m ls
    induction ls with
    | nil => intro _; simp [lens']
    | cons x ls ih =>
      intro hx
      have := ih fun l hl => hx l (by simp [hl])
      have := hx x (by simp)
      simp only [lens', List.map_cons, List.sum_cons, List.length_cons, Nat.mul_add, Nat.mul_one] at *
      omega
  have a := h1 15 D fun l hl => (h.dom l hl).few
  have b := h1 6 A fun l hl => by have := (h.row l hl).1; omega
  omega
end
/-- an assignment, and no other has a smaller span -/
structure Lst (D A : List (List Int)) (r : List Int) : Prop where
  asg : Asg D A r
  least : ∀ s, Asg D A s → ∀ v, Sp s v → Sp r v
theorem deny_implLeast {D A : List (List Int)} (h : PrD D A) (b : Int) (hb : 1 ≤ b ∧ b ≤ 20000) :
    DenY Try.prog 16 [.v (proV D A), xi b] (fun r : List Int × Int => r.2 = 5 ∨ (r.2 = 3 ∧ ∀ s, ¬ Asg D A s) ∨ (r.2 = 0 ∧ Lst D A r.1)) (fun _ => [.v (proV D A), xi b]) (fun r => .v (.tup [ints r.1, .i r.2])) := by
  have hn6 := h.few
  have hlA := h.len
  obtain ⟨hD0, hA0⟩ := flat_pos h
  obtain ⟨hDl, hAl⟩ := flat_few h
  have hdi := dom_in h
  have hso := den_SpanOf D.flatten hD0 hdi
  have hmx := den_Max A.flatten hA0
  have hlast := (sp_iff hD0 (mostOf D.flatten[0] D.flatten - leastOf D.flatten[0] D.flatten)).1 (Int.le_refl _)
  have hlow : mostOf A.flatten[0] A.flatten ∈ A.flatten := by
    rcases mostOf_in A.flatten A.flatten[0] with e | e
    · rw [e]; exact List.getElem_mem hA0
    · exact e
  have hlow3 : 0 ≤ mostOf A.flatten[0] A.flatten ∧ mostOf A.flatten[0] A.flatten ≤ 3 := by
    obtain ⟨l, hl1, hl2⟩ := List.mem_flatten.1 hlow
    exact (h.row l hl1).2 _ hl2
  have hlast9 : mostOf D.flatten[0] D.flatten - leastOf D.flatten[0] D.flatten ≤ 999 := (sp_iff hD0 999).2 fun x hx y hy => by have := hdi x hx; have := hdi y hy; omega
  have hlast0 := hlast _ (List.getElem_mem hD0) _ (List.getElem_mem hD0)
  generalize mostOf D.flatten[0] D.flatten - leastOf D.flatten[0] D.flatten = last at hso hlast hlast9 hlast0
  generalize mostOf A.flatten[0] A.flatten = low at hmx hlow hlow3
  have tD : List.take D.flatten.length D.flatten = D.flatten := List.take_length
  have tA : List.take A.flatten.length A.flatten = A.flatten := List.take_length
  have hstart : ∀ s, Asg D A s → ¬ Sp s (low - 1) := fun s hs => sp_low h hs hlow
  have hall : ∀ s, Asg D A s → Sp s last := fun s hs x hx y hy => hlast x (asg_dom h hs x hx) y (asg_dom h hs y hy)
  refine denY_of_awpG (ghs [] [2]) Try.func16 rfl (by kernel_rfl) (Nat.le_of_ble_eq_true rfl) (by simp +decide only [w_embA_nil, w_embA_cons, w_emb_v, w_emb_ol, w_emb_op, w_emb_agg, w_emb_tup, w_embL_nil, w_embL_cons, embL_i, List.map_cons, List.map_nil, List.nil_append, List.append_nil, List.cons_append, List.nodup_cons, List.nodup_nil, List.mem_cons, List.mem_nil_iff, List.not_mem_nil, ch_ch, ch_lit, lit_ch, Nat.reduceAdd]) mixed (by kernel_rfl) fun hl => ?_
  simp only [xlensL, xlens, lensL, lens, lensL_i, lensL_mapC, xlensL_i, maxI, and_true, true_and] at hl
  rw [Try.ntmps16]
  refine ex_start ?_
  simp (config := { maxSteps := 1000000 }) +decide only [NoH, Old, OldL, nilQ, nilA, RechL, ReY, isNew, stepO, XPost, postN, XOk, updN, updU, isEff, avalue, aeff, ASt.eval, ASt.put, ASt.set, ASt.new, Nat.reduceDiv, Nat.reduceAdd, Int.reduceToNat, absV, absC, scalar, alen, acap, conc, flats, live, blkOf, aload, rd, part?, afieldAddr, afield, aindexAddr, cellsOf, afill, places, abuild, optI, asliceV, asliceS, szOk, srcCells, aappend, astore, amakeSlice, abuildSlice, snapL, mapO, treeL, AVal.tree, AVal.flatT, isFlat, ares, isFz, afroz, afrozB, lookupA, lookupH, tops, if_true, if_false, reduceCtorEq, forall_const, ite_true, ite_false, implies_true, walkS, tabS, Try.results16]
  refine callK (den_implValidProblem h) (by first | exact .inl rfl | exact .inr rfl) ?_
  simp (config := { maxSteps := 1000000 }) +decide only [NoH, Old, OldL, nilQ, nilA, RechL, ReY, isNew, stepO, XPost, postN, XOk, updN, updU, isEff, avalue, aeff, ASt.eval, ASt.put, ASt.set, ASt.new, Nat.reduceDiv, Nat.reduceAdd, Int.reduceToNat, absV, absC, scalar, alen, acap, conc, flats, live, blkOf, aload, rd, part?, afieldAddr, afield, aindexAddr, cellsOf, afill, places, abuild, optI, asliceV, asliceS, szOk, srcCells, aappend, astore, amakeSlice, abuildSlice, snapL, mapO, treeL, AVal.tree, AVal.flatT, isFlat, ares, isFz, afroz, afrozB, lookupA, lookupH, tops, if_true, if_false, reduceCtorEq, forall_const, ite_true, ite_false, implies_true, walkS, tabS, Try.results16]
  refine callK (den_budgetValid b) (by first | exact .inl rfl | exact .inr rfl) ?_
  simp (config := { maxSteps := 1000000 }) +decide only [NoH, Old, OldL, nilQ, nilA, RechL, ReY, isNew, stepO, XPost, postN, XOk, updN, updU, isEff, avalue, aeff, ASt.eval, ASt.put, ASt.set, ASt.new, Nat.reduceDiv, Nat.reduceAdd, Int.reduceToNat, absV, absC, scalar, alen, acap, conc, flats, live, blkOf, aload, rd, part?, afieldAddr, afield, aindexAddr, cellsOf, afill, places, abuild, optI, asliceV, asliceS, szOk, srcCells, aappend, astore, amakeSlice, abuildSlice, snapL, mapO, treeL, AVal.tree, AVal.flatT, isFlat, ares, isFz, afroz, afrozB, lookupA, lookupH, tops, if_true, if_false, reduceCtorEq, forall_const, ite_true, ite_false, implies_true, walkS, tabS, Try.results16, eq_true hb]
  refine callX (denx_Concat D (by omega) (by omega)) (by simp (config := { maxSteps := 1000000 }) +decide only [NoH, Old, OldL, nilQ, nilA, RechL, ReY, isNew, stepO, XPost, postN, XOk, updN, updU, isEff, avalue, aeff, ASt.eval, ASt.put, ASt.set, ASt.new, Nat.reduceDiv, Nat.reduceAdd, Int.reduceToNat, absV, absC, scalar, alen, acap, conc, flats, live, blkOf, aload, rd, part?, afieldAddr, afield, aindexAddr, cellsOf, afill, places, abuild, optI, asliceV, asliceS, szOk, srcCells, aappend, astore, amakeSlice, abuildSlice, snapL, mapO, treeL, AVal.tree, AVal.flatT, isFlat, ares, isFz, afroz, afrozB, lookupA, lookupH, tops, if_true, if_false, reduceCtorEq, forall_const, ite_true, ite_false, implies_true, walkS, tabS, Try.results16]) ?_
  simp (config := { maxSteps := 1000000 }) +decide only [NoH, Old, OldL, nilQ, nilA, RechL, ReY, isNew, stepO, XPost, postN, XOk, updN, updU, isEff, avalue, aeff, ASt.eval, ASt.put, ASt.set, ASt.new, Nat.reduceDiv, Nat.reduceAdd, Int.reduceToNat, absV, absC, scalar, alen, acap, conc, flats, live, blkOf, aload, rd, part?, afieldAddr, afield, aindexAddr, cellsOf, afill, places, abuild, optI, asliceV, asliceS, szOk, srcCells, aappend, astore, amakeSlice, abuildSlice, snapL, mapO, treeL, AVal.tree, AVal.flatT, isFlat, ares, isFz, afroz, afrozB, lookupA, lookupH, tops, if_true, if_false, reduceCtorEq, forall_const, ite_true, ite_false, implies_true, walkS, tabS, Try.results16, tD]
  refine callK (hso) (by first | exact .inl rfl | exact .inr rfl) ?_
  simp (config := { maxSteps := 1000000 }) +decide only [NoH, Old, OldL, nilQ, nilA, RechL, ReY, isNew, stepO, XPost, postN, XOk, updN, updU, isEff, avalue, aeff, ASt.eval, ASt.put, ASt.set, ASt.new, Nat.reduceDiv, Nat.reduceAdd, Int.reduceToNat, absV, absC, scalar, alen, acap, conc, flats, live, blkOf, aload, rd, part?, afieldAddr, afield, aindexAddr, cellsOf, afill, places, abuild, optI, asliceV, asliceS, szOk, srcCells, aappend, astore, amakeSlice, abuildSlice, snapL, mapO, treeL, AVal.tree, AVal.flatT, isFlat, ares, isFz, afroz, afrozB, lookupA, lookupH, tops, if_true, if_false, reduceCtorEq, forall_const, ite_true, ite_false, implies_true, walkS, tabS, Try.results16]
  refine callX (denx_Concat A (by omega) (by omega)) (by simp (config := { maxSteps := 1000000 }) +decide only [NoH, Old, OldL, nilQ, nilA, RechL, ReY, isNew, stepO, XPost, postN, XOk, updN, updU, isEff, avalue, aeff, ASt.eval, ASt.put, ASt.set, ASt.new, Nat.reduceDiv, Nat.reduceAdd, Int.reduceToNat, absV, absC, scalar, alen, acap, conc, flats, live, blkOf, aload, rd, part?, afieldAddr, afield, aindexAddr, cellsOf, afill, places, abuild, optI, asliceV, asliceS, szOk, srcCells, aappend, astore, amakeSlice, abuildSlice, snapL, mapO, treeL, AVal.tree, AVal.flatT, isFlat, ares, isFz, afroz, afrozB, lookupA, lookupH, tops, if_true, if_false, reduceCtorEq, forall_const, ite_true, ite_false, implies_true, walkS, tabS, Try.results16]) ?_
  simp (config := { maxSteps := 1000000 }) +decide only [NoH, Old, OldL, nilQ, nilA, RechL, ReY, isNew, stepO, XPost, postN, XOk, updN, updU, isEff, avalue, aeff, ASt.eval, ASt.put, ASt.set, ASt.new, Nat.reduceDiv, Nat.reduceAdd, Int.reduceToNat, absV, absC, scalar, alen, acap, conc, flats, live, blkOf, aload, rd, part?, afieldAddr, afield, aindexAddr, cellsOf, afill, places, abuild, optI, asliceV, asliceS, szOk, srcCells, aappend, astore, amakeSlice, abuildSlice, snapL, mapO, treeL, AVal.tree, AVal.flatT, isFlat, ares, isFz, afroz, afrozB, lookupA, lookupH, tops, if_true, if_false, reduceCtorEq, forall_const, ite_true, ite_false, implies_true, walkS, tabS, Try.results16, tA]
  refine callK (hmx) (by first | exact .inl rfl | exact .inr rfl) ?_
  simp (config := { maxSteps := 1000000 }) +decide only [NoH, Old, OldL, nilQ, nilA, RechL, ReY, isNew, stepO, XPost, postN, XOk, updN, updU, isEff, avalue, aeff, ASt.eval, ASt.put, ASt.set, ASt.new, Nat.reduceDiv, Nat.reduceAdd, Int.reduceToNat, absV, absC, scalar, alen, acap, conc, flats, live, blkOf, aload, rd, part?, afieldAddr, afield, aindexAddr, cellsOf, afill, places, abuild, optI, asliceV, asliceS, szOk, srcCells, aappend, astore, amakeSlice, abuildSlice, snapL, mapO, treeL, AVal.tree, AVal.flatT, isFlat, ares, isFz, afroz, afrozB, lookupA, lookupH, tops, if_true, if_false, reduceCtorEq, forall_const, ite_true, ite_false, implies_true, walkS, tabS, Try.results16]
  refine ex_loop (fun p : {p : (Int × Int) × Nat // (low ≤ p.1.1 ∧ p.1.1 ≤ 2000) ∧ (0 ≤ p.1.2 ∧ p.1.2 ≤ 20000) ∧ ∀ s, Asg D A s → ¬ Sp s (p.1.1 - 1)} => mkG (ghs [] [2]) [(1, .i p.1.1.2), (2, proP D A), (6, .i last), (7, .i p.1.1.1)] [] p.1.2 46) (fun p => (last + 1 - p.1.1.1).toNat) ⟨((low, b), 3), ⟨Int.le_refl _, by show low ≤ 2000; omega⟩, ⟨by show 0 ≤ b; omega, hb.2⟩, hstart⟩ ?_ ?_
  · refine weak_mk rfl (by first | exact Nat.le_refl _ | (simp only [mk_gen]; omega)) ?_ ?_ <;> simp +decide only [w_lookup_nil, w_lookup_cons, ch_ch, ch_lit, lit_ch, wkT, wkH, wkB, WVL, WV_refl', Int.natCast_zero, Int.natCast_add, Int.natCast_one, Nat.sub_self, Nat.sub_zero, List.replicate_zero, List.take_zero, List.nil_append, List.append_nil, fillC_zero, Nat.reduceDiv, Nat.reduceAdd, upd_bk, bk_at, getB_zero, getB_succ, modB_zero, modB_succ, rows_lit, repB_zero, repB_succ, List.length_cons, List.length_nil, upd_upd_same, upd_apply, mk_tmp, mk_heap, mk_gen, lookupA, lookupH, List.getD_cons_zero, List.getD_cons_succ, init_two, tops, Bool.true_and, and_self, and_true, true_and, true_or, if_true, if_false, ite_true, ite_false, reduceCtorEq, reduceIte]
  rintro ⟨⟨⟨w, b1⟩, G⟩, ⟨w1, w2⟩, ⟨b1l, b1h⟩, hno⟩
  have w1' : low ≤ w := w1
  have w2' : w ≤ 2000 := w2
  have b1l' : 0 ≤ b1 := b1l
  have b1h' : b1 ≤ 20000 := b1h
  have hno' : ∀ s, Asg D A s → ¬ Sp s (w - 1) := hno
  by_cases hw : w ≤ last
  case neg =>
    simp (config := { maxSteps := 1000000 }) +decide only [NoH, Old, OldL, nilQ, nilA, RechL, ReY, isNew, stepO, XPost, postN, XOk, updN, updU, isEff, avalue, aeff, ASt.eval, ASt.put, ASt.set, ASt.new, Nat.reduceDiv, Nat.reduceAdd, Int.reduceToNat, absV, absC, scalar, alen, acap, conc, flats, live, blkOf, aload, rd, part?, afieldAddr, afield, aindexAddr, cellsOf, afill, places, abuild, optI, asliceV, asliceS, szOk, srcCells, aappend, astore, amakeSlice, abuildSlice, snapL, mapO, treeL, AVal.tree, AVal.flatT, isFlat, ares, isFz, afroz, afrozB, lookupA, lookupH, tops, if_true, if_false, reduceCtorEq, forall_const, ite_true, ite_false, implies_true, walkS, tabS, Try.results16, eq_false hw]
    refine yret ([], 3) (.inr (.inl ⟨rfl, fun s hs => hno' s hs fun x hx y hy => by have := hall s hs x hx y hy; omega⟩)) ?_
    simp (config := { maxSteps := 1000000 }) +decide only [NoH, Old, OldL, nilQ, nilA, RechL, ReY, isNew, stepO, XPost, postN, XOk, updN, updU, isEff, avalue, aeff, ASt.eval, ASt.put, ASt.set, ASt.new, Nat.reduceDiv, Nat.reduceAdd, Int.reduceToNat, absV, absC, scalar, alen, acap, conc, flats, live, blkOf, aload, rd, part?, afieldAddr, afield, aindexAddr, cellsOf, afill, places, abuild, optI, asliceV, asliceS, szOk, srcCells, aappend, astore, amakeSlice, abuildSlice, snapL, mapO, treeL, AVal.tree, AVal.flatT, isFlat, ares, isFz, afroz, afrozB, lookupA, lookupH, tops, if_true, if_false, reduceCtorEq, forall_const, ite_true, ite_false, implies_true, walkS, tabS, Try.results16, mapC_nil, List.length_nil]
  have ww : IntKind.i64.wrap (w + 1) = w + 1 := wrap64 (by omega) (by omega)
  have hx := deny_assign h true w (fun h => by simp at h) D.length [] b1 0 (by simp) (Nat.zero_le _) (part_nil D A) (fun x hx => by simp at hx) b1l' b1h' (Int.le_refl _) (by omega) (fun _ => rfl)
  simp (config := { maxSteps := 1000000 }) +decide only [NoH, Old, OldL, nilQ, nilA, RechL, ReY, isNew, stepO, XPost, postN, XOk, updN, updU, isEff, avalue, aeff, ASt.eval, ASt.put, ASt.set, ASt.new, Nat.reduceDiv, Nat.reduceAdd, Int.reduceToNat, absV, absC, scalar, alen, acap, conc, flats, live, blkOf, aload, rd, part?, afieldAddr, afield, aindexAddr, cellsOf, afill, places, abuild, optI, asliceV, asliceS, szOk, srcCells, aappend, astore, amakeSlice, abuildSlice, snapL, mapO, treeL, AVal.tree, AVal.flatT, isFlat, ares, isFz, afroz, afrozB, lookupA, lookupH, tops, if_true, if_false, reduceCtorEq, forall_const, ite_true, ite_false, implies_true, walkS, tabS, Try.results16, eq_true hw]
  refine callY (hx) (by simp (config := { maxSteps := 1000000 }) +decide only [NoH, Old, OldL, nilQ, nilA, RechL, ReY, isNew, stepO, XPost, postN, XOk, updN, updU, isEff, avalue, aeff, ASt.eval, ASt.put, ASt.set, ASt.new, Nat.reduceDiv, Nat.reduceAdd, Int.reduceToNat, absV, absC, scalar, alen, acap, conc, flats, live, blkOf, aload, rd, part?, afieldAddr, afield, aindexAddr, cellsOf, afill, places, abuild, optI, asliceV, asliceS, szOk, srcCells, aappend, astore, amakeSlice, abuildSlice, snapL, mapO, treeL, AVal.tree, AVal.flatT, isFlat, ares, isFz, afroz, afrozB, lookupA, lookupH, tops, if_true, if_false, reduceCtorEq, forall_const, ite_true, ite_false, implies_true, walkS, tabS, Try.results16, mapC_nil, List.length_nil]) (fun i hi => by simp (config := { maxSteps := 1000000 }) +decide only [NoH, Old, OldL, nilQ, nilA, RechL, ReY, isNew, stepO, XPost, postN, XOk, updN, updU, isEff, avalue, aeff, ASt.eval, ASt.put, ASt.set, ASt.new, Nat.reduceDiv, Nat.reduceAdd, Int.reduceToNat, absV, absC, scalar, alen, acap, conc, flats, live, blkOf, aload, rd, part?, afieldAddr, afield, aindexAddr, cellsOf, afill, places, abuild, optI, asliceV, asliceS, szOk, srcCells, aappend, astore, amakeSlice, abuildSlice, snapL, mapO, treeL, AVal.tree, AVal.flatT, isFlat, ares, isFz, afroz, afrozB, lookupA, lookupH, tops, if_true, if_false, reduceCtorEq, forall_const, ite_true, ite_false, implies_true, walkS, tabS, Try.results16, mapC_nil, List.length_nil]) ?_
  rintro ⟨b2, f2, L2⟩ hv
  have hdn : b2 < b1 := hv.dn
  by_cases hb2 : b2 < 0
  · simp (config := { maxSteps := 1000000 }) +decide only [NoH, Old, OldL, nilQ, nilA, RechL, ReY, isNew, stepO, XPost, postN, XOk, updN, updU, isEff, avalue, aeff, ASt.eval, ASt.put, ASt.set, ASt.new, Nat.reduceDiv, Nat.reduceAdd, Int.reduceToNat, absV, absC, scalar, alen, acap, conc, flats, live, blkOf, aload, rd, part?, afieldAddr, afield, aindexAddr, cellsOf, afill, places, abuild, optI, asliceV, asliceS, szOk, srcCells, aappend, astore, amakeSlice, abuildSlice, snapL, mapO, treeL, AVal.tree, AVal.flatT, isFlat, ares, isFz, afroz, afrozB, lookupA, lookupH, tops, if_true, if_false, reduceCtorEq, forall_const, ite_true, ite_false, implies_true, walkS, tabS, Try.results16, eq_true hb2]
    refine yret ([], 5) (.inl rfl) ?_
    simp (config := { maxSteps := 1000000 }) +decide only [NoH, Old, OldL, nilQ, nilA, RechL, ReY, isNew, stepO, XPost, postN, XOk, updN, updU, isEff, avalue, aeff, ASt.eval, ASt.put, ASt.set, ASt.new, Nat.reduceDiv, Nat.reduceAdd, Int.reduceToNat, absV, absC, scalar, alen, acap, conc, flats, live, blkOf, aload, rd, part?, afieldAddr, afield, aindexAddr, cellsOf, afill, places, abuild, optI, asliceV, asliceS, szOk, srcCells, aappend, astore, amakeSlice, abuildSlice, snapL, mapO, treeL, AVal.tree, AVal.flatT, isFlat, ares, isFz, afroz, afrozB, lookupA, lookupH, tops, if_true, if_false, reduceCtorEq, forall_const, ite_true, ite_false, implies_true, walkS, tabS, Try.results16, mapC_nil, List.length_nil]
  rcases hv.res (show 0 ≤ b2 by omega) with ⟨e, _, hn⟩ | ⟨e, _, s, hs, hsp, e2⟩
  · obtain rfl : f2 = 0 := e
    have hn2 : ∀ s, Asg D A s → ¬ Sp s w := fun s hs => by simpa using hn s (by simpa using hs)
    simp (config := { maxSteps := 1000000 }) +decide only [NoH, Old, OldL, nilQ, nilA, RechL, ReY, isNew, stepO, XPost, postN, XOk, updN, updU, isEff, avalue, aeff, ASt.eval, ASt.put, ASt.set, ASt.new, Nat.reduceDiv, Nat.reduceAdd, Int.reduceToNat, absV, absC, scalar, alen, acap, conc, flats, live, blkOf, aload, rd, part?, afieldAddr, afield, aindexAddr, cellsOf, afill, places, abuild, optI, asliceV, asliceS, szOk, srcCells, aappend, astore, amakeSlice, abuildSlice, snapL, mapO, treeL, AVal.tree, AVal.flatT, isFlat, ares, isFz, afroz, afrozB, lookupA, lookupH, tops, if_true, if_false, reduceCtorEq, forall_const, ite_true, ite_false, implies_true, walkS, tabS, Try.results16, eq_false hb2, ww]
    refine ⟨⟨((w + 1, b2), G + 2), ⟨by show low ≤ w + 1; omega, by show w + 1 ≤ 2000; omega⟩, ⟨by show 0 ≤ b2; omega, by show b2 ≤ 20000; omega⟩, fun s hs => by show ¬ Sp s (w + 1 - 1); rw [show w + 1 - 1 = w by omega]; exact hn2 s hs⟩, ?_, by show (last + 1 - (w + 1)).toNat < (last + 1 - w).toNat; omega⟩
    refine weak_mk rfl (by first | exact Nat.le_refl _ | (simp only [mk_gen]; omega)) ?_ ?_ <;> simp +decide only [w_lookup_nil, w_lookup_cons, ch_ch, ch_lit, lit_ch, wkT, wkH, wkB, WVL, WV_refl', Int.natCast_zero, Int.natCast_add, Int.natCast_one, Nat.sub_self, Nat.sub_zero, List.replicate_zero, List.take_zero, List.nil_append, List.append_nil, fillC_zero, Nat.reduceDiv, Nat.reduceAdd, upd_bk, bk_at, getB_zero, getB_succ, modB_zero, modB_succ, rows_lit, repB_zero, repB_succ, List.length_cons, List.length_nil, upd_upd_same, upd_apply, mk_tmp, mk_heap, mk_gen, lookupA, lookupH, List.getD_cons_zero, List.getD_cons_succ, init_two, tops, Bool.true_and, and_self, and_true, true_and, true_or, if_true, if_false, ite_true, ite_false, reduceCtorEq, reduceIte]
  · have e' : 0 < f2 := e
    have e2' : L2 = s := e2 rfl
    subst e2'
    have hL : Lst D A L2 := ⟨hs, fun t ht v hv x hx y hy => by
      by_cases hvw : v ≤ w - 1
      · exact (hno' t ht fun x hx y hy => by have := hv x hx y hy; omega).elim
      · have := hsp x hx y hy
        omega⟩
    simp (config := { maxSteps := 1000000 }) +decide only [NoH, Old, OldL, nilQ, nilA, RechL, ReY, isNew, stepO, XPost, postN, XOk, updN, updU, isEff, avalue, aeff, ASt.eval, ASt.put, ASt.set, ASt.new, Nat.reduceDiv, Nat.reduceAdd, Int.reduceToNat, absV, absC, scalar, alen, acap, conc, flats, live, blkOf, aload, rd, part?, afieldAddr, afield, aindexAddr, cellsOf, afill, places, abuild, optI, asliceV, asliceS, szOk, srcCells, aappend, astore, amakeSlice, abuildSlice, snapL, mapO, treeL, AVal.tree, AVal.flatT, isFlat, ares, isFz, afroz, afrozB, lookupA, lookupH, tops, if_true, if_false, reduceCtorEq, forall_const, ite_true, ite_false, implies_true, walkS, tabS, Try.results16, eq_false hb2, eq_true e']
    refine yretW (s' := mkG (ghs [] [2]) [(4, ints L2), (5, .i 0)] [] (G + 2) 46) (.step ?_ (.refl _)) (L2, 0) (.inr (.inr ⟨rfl, hL⟩)) ?_
    · refine weak_mk rfl (by first | exact Nat.le_refl _ | (simp only [mk_gen]; omega)) ?_ ?_ <;> simp +decide only [w_lookup_nil, w_lookup_cons, ch_ch, ch_lit, lit_ch, wkT, wkH, wkB, WVL, WV_refl', Int.natCast_zero, Int.natCast_add, Int.natCast_one, Nat.sub_self, Nat.sub_zero, List.replicate_zero, List.take_zero, List.nil_append, List.append_nil, fillC_zero, Nat.reduceDiv, Nat.reduceAdd, upd_bk, bk_at, getB_zero, getB_succ, modB_zero, modB_succ, rows_lit, repB_zero, repB_succ, List.length_cons, List.length_nil, upd_upd_same, upd_apply, mk_tmp, mk_heap, mk_gen, lookupA, lookupH, List.getD_cons_zero, List.getD_cons_succ, init_two, tops, Bool.true_and, and_self, and_true, true_and, true_or, if_true, if_false, ite_true, ite_false, reduceCtorEq, reduceIte]
      exact WV_frz rfl rfl rfl (by simp [len_mapC]) (by rw [List.drop_zero]; exact (List.take_of_length_le (by rw [len_mapC]; simp)).symm) (treeL_mapC _ _ fun _ => rfl)
    · simp (config := { maxSteps := 1000000 }) +decide only [NoH, Old, OldL, nilQ, nilA, RechL, ReY, isNew, stepO, XPost, postN, XOk, updN, updU, isEff, avalue, aeff, ASt.eval, ASt.put, ASt.set, ASt.new, Nat.reduceDiv, Nat.reduceAdd, Int.reduceToNat, absV, absC, scalar, alen, acap, conc, flats, live, blkOf, aload, rd, part?, afieldAddr, afield, aindexAddr, cellsOf, afill, places, abuild, optI, asliceV, asliceS, szOk, srcCells, aappend, astore, amakeSlice, abuildSlice, snapL, mapO, treeL, AVal.tree, AVal.flatT, isFlat, ares, isFz, afroz, afrozB, lookupA, lookupH, tops, if_true, if_false, reduceCtorEq, forall_const, ite_true, ite_false, implies_true, walkS, tabS, Try.results16]
end Go.Proofs.Yteempjinbolkaaa
