/-
  OWN WORK: chains, and channels exchanged along them.
-/
import Derived.Test.YtkmhoebopfgpdaaChC
namespace Go.Proofs.Ytkmhoebopfgpdaa
open Go Go.Own Go.Proofs
set_option maxHeartbeats 4000000
set_option maxRecDepth 20000
set_option linter.unusedSimpArgs false
set_option linter.unusedVariables false
/-- whether an item is beside another one, with one of two channels -/
def tB (A : List (List Int)) (L : List Int) (a b : Int) (c i : Nat) : Bool := decide (¬ ap A c i = 0 ∧ (L.getD i 0 = b ∨ L.getD i 0 = a))
def chF (A : List (List Int)) (L : List Int) (it : Nat) (c : Int) : List Int := bfs (tB A L (L.getD it 0) c) L.length (L.length + 1) 0 [(it : Int)]
theorem chOk_one {n it : Nat} (h : it < n) : ChOk n [(it : Int)] := ⟨by simp, fun x hx => by simp only [List.mem_singleton] at hx; omega⟩
theorem chF_ok {A : List (List Int)} {L : List Int} {it : Nat} {c : Int} (h : it < L.length) : ChOk L.length (chF A L it c) ∧ (it : Int) ∈ chF A L it c ∧ ∀ j : Nat, (j : Int) ∈ chF A L it c → L.getD j 0 = L.getD it 0 ∨ L.getD j 0 = c := by
  obtain ⟨h1, h2, h3⟩ := bfs_ok (T := tB A L (L.getD it 0) c) (L.length + 1) 0 [(it : Int)] (chOk_one h)
  refine ⟨h1, h2 _ (by simp), fun j hj => ?_⟩
  rcases h3 _ hj with hx | ⟨d, i, e, hi⟩
  · simp only [List.mem_singleton] at hx
    have : j = it := by omega
    subst this
    exact .inl rfl
  · have : j = i := by omega
    subst this
    unfold tB at hi
    rw [decide_eq_true_eq] at hi
    exact hi.2.elim .inr .inl
theorem chN_pre (T : Nat → Nat → Bool) (c : Nat) (ch : List Int) : ∀ k, ∃ r, chN T c ch k = ch ++ r
  | 0 => ⟨[], by simp [chN]⟩
  | k + 1 => by
    obtain ⟨r, e⟩ := chN_pre T c ch k
    unfold chN
    split
    · exact ⟨r ++ [(k : Int)], by rw [e]; simp⟩
    · exact ⟨r, e⟩
theorem chain_get {T : Nat → Nat → Bool} {c k : Nat} {ch : List Int} (h : k < ch.length) (j : Nat) : k < (chN T c ch j).length ∧ (chN T c ch j)[k]? = some ch[k] := by
  obtain ⟨r, e⟩ := chN_pre T c ch j
  rw [e]
  refine ⟨by simp; omega, ?_⟩
  rw [List.getElem?_append_left h, List.getElem?_eq_getElem h]
theorem den_chain {D A : List (List Int)} (h : PrD D A) (L : List Int) (hS : StOk D L) (it : Nat) (hi : it < L.length) (c : Int) : Den Try.prog 31 [proV D A, ints L, .i it, .i c] (ints (sortI (chF A L it c))) := by
  have hn := h.few
  have hlA := h.len
  have hL := hS.1
  have hiI : (it : Int) < (L.length : Int) := by omega
  have eit : L.getD it 0 = L[it] := by rw [List.getD_eq_getElem?_getD, List.getElem?_eq_getElem hi, Option.getD_some]
  have h1 : (List.replicate 1 (0 : Int)).set 0 (it : Int) = [(it : Int)] := rfl
  refine den_of_awpG (ghs [] [4]) Try.func31 rfl (by kernel_rfl) (Nat.le_of_ble_eq_true rfl) (by simp only [treeL, AVal.tree, treeL_i, treeL_ints, treeL_u8, treeL_append, Bool.and_self, Bool.and_true, Bool.true_and]) (by first | rfl | simp only [treeL, AVal.tree, treeL_i, treeL_ints, treeL_u8, treeL_append, Bool.and_self, Bool.and_true, Bool.true_and]) mixed (by kernel_rfl) fun hl => ?_
  simp only [lensL, lens, lensL_i, lensL_mapC, maxI, and_true, true_and] at hl
  rw [Try.ntmps31]
  refine ex_start ?_
  simp (config := { maxSteps := 1000000 }) +decide only [NoH, Old, OldL, nilQ, nilA, asgn, nz, RechL, ReY, isNew, stepO, XPost, postN, XOk, updN, updU, isEff, avalue, aeff, ASt.eval, ASt.put, ASt.set, ASt.new, Nat.reduceDiv, Nat.reduceAdd, Int.reduceToNat, absV, absC, scalar, alen, acap, conc, flats, live, blkOf, aload, rd, part?, afieldAddr, afield, aindexAddr, cellsOf, afill, places, abuild, optI, asliceV, asliceS, szOk, srcCells, aappend, acopy, aclear, astore, amakeSlice, abuildSlice, snapL, mapO, treeL, AVal.tree, AVal.flatT, isFlat, ares, isFz, afroz, afrozB, lookupA, lookupH, tops, if_true, if_false, reduceCtorEq, forall_const, ite_true, ite_false, implies_true, walkS, tabS, Try.results31]
  refine ex_loop (fun p : {p : Nat × List Int × Nat × Nat // p.1 ≤ p.2.1.length ∧ ChOk L.length p.2.1 ∧ bfs (tB A L L[it] c) L.length (L.length + 1 - p.1) p.1 p.2.1 = chF A L it c} => mkG (ghs [] [4]) [(1, ints L), (2, .i it), (3, .i c), (4, proP D A), (9, .own 15 p.1.2.2.1 0 p.1.2.1.length), (10, .i p.1.1)] [(15, ⟨p.1.2.2.1, 1, mapC AVal.i p.1.2.1⟩)] p.1.2.2.2 69) (fun p => L.length + 1 - p.1.1) ⟨(0, [(it : Int)], 0, 1), Nat.zero_le _, chOk_one hi, by rw [← eit]; rfl⟩ ?_ ?_
  · refine weak_mk rfl (by first | exact Nat.le_refl _ | (simp only [mk_gen]; omega)) ?_ ?_ <;> simp +decide only [w_lookup_nil, w_lookup_cons, ch_ch, ch_lit, lit_ch, wkT, wkH, wkB, WVL, WV_refl', Int.natCast_zero, Int.natCast_add, Int.natCast_one, Nat.sub_self, Nat.sub_zero, List.replicate_zero, List.take_zero, List.nil_append, List.append_nil, fillC_zero, Nat.reduceDiv, Nat.reduceAdd, upd_bk, bk_at, getB_zero, getB_succ, modB_zero, modB_succ, rows_lit, repB_zero, repB_succ, List.length_cons, List.length_nil, upd_upd_same, upd_apply, mk_tmp, mk_heap, mk_gen, lookupA, lookupH, List.getD_cons_zero, List.getD_cons_succ, init_two, tops, Bool.true_and, and_self, and_true, true_and, true_or, if_true, if_false, ite_true, ite_false, reduceCtorEq, reduceIte, h1, List.length_cons, List.length_nil, Nat.zero_add]
  rintro ⟨⟨k, ch, g, G⟩, k1, k2, k3⟩
  have k1' : k ≤ ch.length := k1
  have k2' : ChOk L.length ch := k2
  have k3' : bfs (tB A L L[it] c) L.length (L.length + 1 - k) k ch = chF A L it c := k3
  have kl := k2'.len
  by_cases klt : k < ch.length
  case neg =>
    have kI : ¬ (k : Int) < (ch.length : Int) := by omega
    rw [bfs_end klt] at k3'
    subst k3'
    have sl := sortI_length (chF A L it c)
    have tk : List.take (chF A L it c).length (chF A L it c) = chF A L it c := List.take_length
    have tk2 : List.take (chF A L it c).length (sortI (chF A L it c)) = sortI (chF A L it c) := List.take_of_length_le (by omega)
    simp (config := { maxSteps := 1000000 }) +decide only [NoH, Old, OldL, nilQ, nilA, asgn, nz, RechL, ReY, isNew, stepO, XPost, postN, XOk, updN, updU, isEff, avalue, aeff, ASt.eval, ASt.put, ASt.set, ASt.new, Nat.reduceDiv, Nat.reduceAdd, Int.reduceToNat, absV, absC, scalar, alen, acap, conc, flats, live, blkOf, aload, rd, part?, afieldAddr, afield, aindexAddr, cellsOf, afill, places, abuild, optI, asliceV, asliceS, szOk, srcCells, aappend, acopy, aclear, astore, amakeSlice, abuildSlice, snapL, mapO, treeL, AVal.tree, AVal.flatT, isFlat, ares, isFz, afroz, afrozB, lookupA, lookupH, tops, if_true, if_false, reduceCtorEq, forall_const, ite_true, ite_false, implies_true, walkS, tabS, Try.results31, eq_false kI, tk, treeL_i]
    refine callX (denx_sortI (chF A L it c) (by omega)) (by simp (config := { maxSteps := 1000000 }) +decide only [NoH, Old, OldL, nilQ, nilA, asgn, nz, RechL, ReY, isNew, stepO, XPost, postN, XOk, updN, updU, isEff, avalue, aeff, ASt.eval, ASt.put, ASt.set, ASt.new, Nat.reduceDiv, Nat.reduceAdd, Int.reduceToNat, absV, absC, scalar, alen, acap, conc, flats, live, blkOf, aload, rd, part?, afieldAddr, afield, aindexAddr, cellsOf, afill, places, abuild, optI, asliceV, asliceS, szOk, srcCells, aappend, acopy, aclear, astore, amakeSlice, abuildSlice, snapL, mapO, treeL, AVal.tree, AVal.flatT, isFlat, ares, isFz, afroz, afrozB, lookupA, lookupH, tops, if_true, if_false, reduceCtorEq, forall_const, ite_true, ite_false, implies_true, walkS, tabS, Try.results31, sortI_length, tk, tk2]) ?_
    simp (config := { maxSteps := 1000000 }) +decide only [NoH, Old, OldL, nilQ, nilA, asgn, nz, RechL, ReY, isNew, stepO, XPost, postN, XOk, updN, updU, isEff, avalue, aeff, ASt.eval, ASt.put, ASt.set, ASt.new, Nat.reduceDiv, Nat.reduceAdd, Int.reduceToNat, absV, absC, scalar, alen, acap, conc, flats, live, blkOf, aload, rd, part?, afieldAddr, afield, aindexAddr, cellsOf, afill, places, abuild, optI, asliceV, asliceS, szOk, srcCells, aappend, acopy, aclear, astore, amakeSlice, abuildSlice, snapL, mapO, treeL, AVal.tree, AVal.flatT, isFlat, ares, isFz, afroz, afrozB, lookupA, lookupH, tops, if_true, if_false, reduceCtorEq, forall_const, ite_true, ite_false, implies_true, walkS, tabS, Try.results31, sortI_length, tk, tk2, treeL_i]
  have kI : (k : Int) < (ch.length : Int) := by omega
  have wk : IntKind.i64.wrap ((k : Int) + 1) = ((k + 1 : Nat) : Int) := wrap64 (by omega) (by omega)
  have hx := k2'.inn _ (List.getElem_mem klt)
  obtain ⟨d, hd⟩ : ∃ d : Nat, ch[k] = (d : Int) := ⟨ch[k].toNat, by omega⟩
  have dn : d < L.length := by omega
  have egd : (ch.getD k 0).toNat = d := by rw [List.getD_eq_getElem?_getD, List.getElem?_eq_getElem klt, Option.getD_some, hd, Int.toNat_natCast]
  have enext : bfs (tB A L L[it] c) L.length (L.length + 1 - (k + 1)) (k + 1) (chN (tB A L L[it] c) d ch L.length) = chF A L it c := by
    rw [← k3']
    obtain ⟨f, hf⟩ : ∃ f, L.length + 1 - k = f + 1 := ⟨L.length - k, by omega⟩
    rw [hf, show L.length + 1 - (k + 1) = f by omega]
    show _ = if k < ch.length then _ else _
    rw [if_pos klt, egd]
  simp (config := { maxSteps := 1000000 }) +decide only [NoH, Old, OldL, nilQ, nilA, asgn, nz, RechL, ReY, isNew, stepO, XPost, postN, XOk, updN, updU, isEff, avalue, aeff, ASt.eval, ASt.put, ASt.set, ASt.new, Nat.reduceDiv, Nat.reduceAdd, Int.reduceToNat, absV, absC, scalar, alen, acap, conc, flats, live, blkOf, aload, rd, part?, afieldAddr, afield, aindexAddr, cellsOf, afill, places, abuild, optI, asliceV, asliceS, szOk, srcCells, aappend, acopy, aclear, astore, amakeSlice, abuildSlice, snapL, mapO, treeL, AVal.tree, AVal.flatT, isFlat, ares, isFz, afroz, afrozB, lookupA, lookupH, tops, if_true, if_false, reduceCtorEq, forall_const, ite_true, ite_false, implies_true, walkS, tabS, Try.results31, eq_true kI]
  refine ex_loop (fun p : {p : Nat × Nat × Nat // p.1 ≤ L.length} => mkG (ghs [] [4]) [(1, ints L), (2, .i it), (3, .i c), (4, proP D A), (9, .own 15 p.1.2.1 0 (chN (tB A L L[it] c) d ch p.1.1).length), (10, .i k), (22, ints L), (23, .i L.length), (24, .i p.1.1)] [(15, ⟨p.1.2.1, 1, mapC AVal.i (chN (tB A L L[it] c) d ch p.1.1)⟩)] p.1.2.2 69) (fun p => L.length - p.1.1) ⟨(0, g, G), Nat.zero_le _⟩ ?_ ?_
  · refine weak_mk rfl (by first | exact Nat.le_refl _ | (simp only [mk_gen]; omega)) ?_ ?_ <;> simp +decide only [w_lookup_nil, w_lookup_cons, ch_ch, ch_lit, lit_ch, wkT, wkH, wkB, WVL, WV_refl', Int.natCast_zero, Int.natCast_add, Int.natCast_one, Nat.sub_self, Nat.sub_zero, List.replicate_zero, List.take_zero, List.nil_append, List.append_nil, fillC_zero, Nat.reduceDiv, Nat.reduceAdd, upd_bk, bk_at, getB_zero, getB_succ, modB_zero, modB_succ, rows_lit, repB_zero, repB_succ, List.length_cons, List.length_nil, upd_upd_same, upd_apply, mk_tmp, mk_heap, mk_gen, lookupA, lookupH, List.getD_cons_zero, List.getD_cons_succ, init_two, tops, Bool.true_and, and_self, and_true, true_and, true_or, if_true, if_false, ite_true, ite_false, reduceCtorEq, reduceIte, chN]
  rintro ⟨⟨j, g2, G2⟩, hj⟩
  have hj' : j ≤ L.length := hj
  obtain ⟨n1, n2, n3⟩ := chN_ok (T := tB A L L[it] c) (c := d) k2' j hj'
  have nl := n1.len
  obtain ⟨q1, q2⟩ := chain_get (T := tB A L L[it] c) (c := d) klt j
  rw [hd] at q2
  by_cases jlt : j < L.length
  case neg =>
    have e : j = L.length := by omega
    subst e
    have jI : ¬ (L.length : Int) < (L.length : Int) := by omega
    simp (config := { maxSteps := 1000000 }) +decide only [NoH, Old, OldL, nilQ, nilA, asgn, nz, RechL, ReY, isNew, stepO, XPost, postN, XOk, updN, updU, isEff, avalue, aeff, ASt.eval, ASt.put, ASt.set, ASt.new, Nat.reduceDiv, Nat.reduceAdd, Int.reduceToNat, absV, absC, scalar, alen, acap, conc, flats, live, blkOf, aload, rd, part?, afieldAddr, afield, aindexAddr, cellsOf, afill, places, abuild, optI, asliceV, asliceS, szOk, srcCells, aappend, acopy, aclear, astore, amakeSlice, abuildSlice, snapL, mapO, treeL, AVal.tree, AVal.flatT, isFlat, ares, isFz, afroz, afrozB, lookupA, lookupH, tops, if_true, if_false, reduceCtorEq, forall_const, ite_true, ite_false, implies_true, walkS, tabS, Try.results31, eq_false jI, wk]
    refine ⟨⟨(k + 1, chN (tB A L L[it] c) d ch L.length, g2, G2), by show k + 1 ≤ (chN (tB A L L[it] c) d ch L.length).length; omega, n1, enext⟩, ?_, by show L.length + 1 - (k + 1) < L.length + 1 - k; omega⟩
    refine weak_mk rfl (by first | exact Nat.le_refl _ | (simp only [mk_gen]; omega)) ?_ ?_ <;> simp +decide only [w_lookup_nil, w_lookup_cons, ch_ch, ch_lit, lit_ch, wkT, wkH, wkB, WVL, WV_refl', Int.natCast_zero, Int.natCast_add, Int.natCast_one, Nat.sub_self, Nat.sub_zero, List.replicate_zero, List.take_zero, List.nil_append, List.append_nil, fillC_zero, Nat.reduceDiv, Nat.reduceAdd, upd_bk, bk_at, getB_zero, getB_succ, modB_zero, modB_succ, rows_lit, repB_zero, repB_succ, List.length_cons, List.length_nil, upd_upd_same, upd_apply, mk_tmp, mk_heap, mk_gen, lookupA, lookupH, List.getD_cons_zero, List.getD_cons_succ, init_two, tops, Bool.true_and, and_self, and_true, true_and, true_or, if_true, if_false, ite_true, ite_false, reduceCtorEq, reduceIte]
  have jI : (j : Int) < (L.length : Int) := by omega
  have wj : IntKind.i64.wrap ((j : Int) + 1) = ((j + 1 : Nat) : Int) := wrap64 (by omega) (by omega)
  have dA : d < A.length := by omega
  have hrd := h.rl dA
  have jr : j < A[d].length := by omega
  have eap : ap A (d : Int) (j : Int) = A[d][j] := by
    unfold ap
    rw [Int.toNat_natCast, Int.toNat_natCast]
    exact gdd dA jr
  have ej : L.getD j 0 = L[j] := by rw [List.getD_eq_getElem?_getD, List.getElem?_eq_getElem jlt, Option.getD_some]
  have eT : tB A L L[it] c d j = true ↔ ¬ A[d][j] = 0 ∧ (L[j] = c ∨ L[j] = L[it]) := by
    unfold tB
    rw [decide_eq_true_eq, eap, ej]
  have es : chN (tB A L L[it] c) d ch (j + 1) = if tB A L L[it] c d j = true ∧ ¬ (j : Int) ∈ chN (tB A L L[it] c) d ch j then chN (tB A L L[it] c) d ch j ++ [(j : Int)] else chN (tB A L L[it] c) d ch j := rfl
  generalize hX : chN (tB A L L[it] c) d ch j = X at *
  have tX : List.take X.length X = X := List.take_length
  have q3 : (mapC AVal.i X)[k]? = some (.i d) := by simp [mapC, q2]
  have hkX : X[k] = (d : Int) := by rw [List.getElem?_eq_getElem q1] at q2; exact Option.some.inj q2
  have skip : ¬ (tB A L L[it] c d j = true ∧ ¬ (j : Int) ∈ X) → chN (tB A L L[it] c) d ch (j + 1) = X := fun hc => by rw [es, if_neg hc]
  by_cases c1 : A[d][j] = 0
  · have e := skip fun h => (eT.1 h.1).1 c1
    simp (config := { maxSteps := 1000000 }) +decide only [NoH, Old, OldL, nilQ, nilA, asgn, nz, RechL, ReY, isNew, stepO, XPost, postN, XOk, updN, updU, isEff, avalue, aeff, ASt.eval, ASt.put, ASt.set, ASt.new, Nat.reduceDiv, Nat.reduceAdd, Int.reduceToNat, absV, absC, scalar, alen, acap, conc, flats, live, blkOf, aload, rd, part?, afieldAddr, afield, aindexAddr, cellsOf, afill, places, abuild, optI, asliceV, asliceS, szOk, srcCells, aappend, acopy, aclear, astore, amakeSlice, abuildSlice, snapL, mapO, treeL, AVal.tree, AVal.flatT, isFlat, ares, isFz, afroz, afrozB, lookupA, lookupH, tops, if_true, if_false, reduceCtorEq, forall_const, ite_true, ite_false, implies_true, walkS, tabS, Try.results31, eq_true jI, jlt, q1, q2, q3, hkX, dA, jr, eq_true c1, wj]
    refine ⟨⟨(j + 1, g2, G2), jlt⟩, ?_, by show L.length - (j + 1) < L.length - j; omega⟩
    refine weak_mk rfl (by first | exact Nat.le_refl _ | (simp only [mk_gen]; omega)) ?_ ?_ <;> simp +decide only [w_lookup_nil, w_lookup_cons, ch_ch, ch_lit, lit_ch, wkT, wkH, wkB, WVL, WV_refl', Int.natCast_zero, Int.natCast_add, Int.natCast_one, Nat.sub_self, Nat.sub_zero, List.replicate_zero, List.take_zero, List.nil_append, List.append_nil, fillC_zero, Nat.reduceDiv, Nat.reduceAdd, upd_bk, bk_at, getB_zero, getB_succ, modB_zero, modB_succ, rows_lit, repB_zero, repB_succ, List.length_cons, List.length_nil, upd_upd_same, upd_apply, mk_tmp, mk_heap, mk_gen, lookupA, lookupH, List.getD_cons_zero, List.getD_cons_succ, init_two, tops, Bool.true_and, and_self, and_true, true_and, true_or, if_true, if_false, ite_true, ite_false, reduceCtorEq, reduceIte, e]
  by_cases c2 : L[j] = c ∨ L[j] = L[it]
  case neg =>
    have e := skip fun h => c2 (eT.1 h.1).2
    have c3 : ¬ L[j] = c := fun h => c2 (.inl h)
    have c4 : ¬ L[j] = L[it] := fun h => c2 (.inr h)
    simp (config := { maxSteps := 1000000 }) +decide only [NoH, Old, OldL, nilQ, nilA, asgn, nz, RechL, ReY, isNew, stepO, XPost, postN, XOk, updN, updU, isEff, avalue, aeff, ASt.eval, ASt.put, ASt.set, ASt.new, Nat.reduceDiv, Nat.reduceAdd, Int.reduceToNat, absV, absC, scalar, alen, acap, conc, flats, live, blkOf, aload, rd, part?, afieldAddr, afield, aindexAddr, cellsOf, afill, places, abuild, optI, asliceV, asliceS, szOk, srcCells, aappend, acopy, aclear, astore, amakeSlice, abuildSlice, snapL, mapO, treeL, AVal.tree, AVal.flatT, isFlat, ares, isFz, afroz, afrozB, lookupA, lookupH, tops, if_true, if_false, reduceCtorEq, forall_const, ite_true, ite_false, implies_true, walkS, tabS, Try.results31, eq_true jI, jlt, q1, q2, q3, hkX, dA, jr, eq_false c1, eq_false c3, eq_false c4, hi, hiI, wj]
    refine ⟨⟨(j + 1, g2, G2), jlt⟩, ?_, by show L.length - (j + 1) < L.length - j; omega⟩
    refine weak_mk rfl (by first | exact Nat.le_refl _ | (simp only [mk_gen]; omega)) ?_ ?_ <;> simp +decide only [w_lookup_nil, w_lookup_cons, ch_ch, ch_lit, lit_ch, wkT, wkH, wkB, WVL, WV_refl', Int.natCast_zero, Int.natCast_add, Int.natCast_one, Nat.sub_self, Nat.sub_zero, List.replicate_zero, List.take_zero, List.nil_append, List.append_nil, fillC_zero, Nat.reduceDiv, Nat.reduceAdd, upd_bk, bk_at, getB_zero, getB_succ, modB_zero, modB_succ, rows_lit, repB_zero, repB_succ, List.length_cons, List.length_nil, upd_upd_same, upd_apply, mk_tmp, mk_heap, mk_gen, lookupA, lookupH, List.getD_cons_zero, List.getD_cons_succ, init_two, tops, Bool.true_and, and_self, and_true, true_and, true_or, if_true, if_false, ite_true, ite_false, reduceCtorEq, reduceIte, e]
  have hT : tB A L L[it] c d j = true := eT.2 ⟨c1, c2⟩
  have h8 : (X.length + 1) * 8 ≤ 140737488355328 := by omega
  by_cases c5 : (j : Int) ∈ X
  · have e := skip fun h => h.2 c5
    by_cases c3 : L[j] = c
    · simp (config := { maxSteps := 1000000 }) +decide only [NoH, Old, OldL, nilQ, nilA, asgn, nz, RechL, ReY, isNew, stepO, XPost, postN, XOk, updN, updU, isEff, avalue, aeff, ASt.eval, ASt.put, ASt.set, ASt.new, Nat.reduceDiv, Nat.reduceAdd, Int.reduceToNat, absV, absC, scalar, alen, acap, conc, flats, live, blkOf, aload, rd, part?, afieldAddr, afield, aindexAddr, cellsOf, afill, places, abuild, optI, asliceV, asliceS, szOk, srcCells, aappend, acopy, aclear, astore, amakeSlice, abuildSlice, snapL, mapO, treeL, AVal.tree, AVal.flatT, isFlat, ares, isFz, afroz, afrozB, lookupA, lookupH, tops, if_true, if_false, reduceCtorEq, forall_const, ite_true, ite_false, implies_true, walkS, tabS, Try.results31, eq_true jI, jlt, q1, q2, q3, hkX, dA, jr, eq_false c1, eq_true c3, tX, treeL_i]
      refine callK (den_Contains X j) (by first | exact .inl rfl | exact .inr rfl) ?_
      simp (config := { maxSteps := 1000000 }) +decide only [NoH, Old, OldL, nilQ, nilA, asgn, nz, RechL, ReY, isNew, stepO, XPost, postN, XOk, updN, updU, isEff, avalue, aeff, ASt.eval, ASt.put, ASt.set, ASt.new, Nat.reduceDiv, Nat.reduceAdd, Int.reduceToNat, absV, absC, scalar, alen, acap, conc, flats, live, blkOf, aload, rd, part?, afieldAddr, afield, aindexAddr, cellsOf, afill, places, abuild, optI, asliceV, asliceS, szOk, srcCells, aappend, acopy, aclear, astore, amakeSlice, abuildSlice, snapL, mapO, treeL, AVal.tree, AVal.flatT, isFlat, ares, isFz, afroz, afrozB, lookupA, lookupH, tops, if_true, if_false, reduceCtorEq, forall_const, ite_true, ite_false, implies_true, walkS, tabS, Try.results31, eq_true c5, wj]
      refine ⟨⟨(j + 1, g2, G2), jlt⟩, ?_, by show L.length - (j + 1) < L.length - j; omega⟩
      refine weak_mk rfl (by first | exact Nat.le_refl _ | (simp only [mk_gen]; omega)) ?_ ?_ <;> simp +decide only [w_lookup_nil, w_lookup_cons, ch_ch, ch_lit, lit_ch, wkT, wkH, wkB, WVL, WV_refl', Int.natCast_zero, Int.natCast_add, Int.natCast_one, Nat.sub_self, Nat.sub_zero, List.replicate_zero, List.take_zero, List.nil_append, List.append_nil, fillC_zero, Nat.reduceDiv, Nat.reduceAdd, upd_bk, bk_at, getB_zero, getB_succ, modB_zero, modB_succ, rows_lit, repB_zero, repB_succ, List.length_cons, List.length_nil, upd_upd_same, upd_apply, mk_tmp, mk_heap, mk_gen, lookupA, lookupH, List.getD_cons_zero, List.getD_cons_succ, init_two, tops, Bool.true_and, and_self, and_true, true_and, true_or, if_true, if_false, ite_true, ite_false, reduceCtorEq, reduceIte, e]
    · have c4 : L[j] = L[it] := c2.resolve_left c3
      simp (config := { maxSteps := 1000000 }) +decide only [NoH, Old, OldL, nilQ, nilA, asgn, nz, RechL, ReY, isNew, stepO, XPost, postN, XOk, updN, updU, isEff, avalue, aeff, ASt.eval, ASt.put, ASt.set, ASt.new, Nat.reduceDiv, Nat.reduceAdd, Int.reduceToNat, absV, absC, scalar, alen, acap, conc, flats, live, blkOf, aload, rd, part?, afieldAddr, afield, aindexAddr, cellsOf, afill, places, abuild, optI, asliceV, asliceS, szOk, srcCells, aappend, acopy, aclear, astore, amakeSlice, abuildSlice, snapL, mapO, treeL, AVal.tree, AVal.flatT, isFlat, ares, isFz, afroz, afrozB, lookupA, lookupH, tops, if_true, if_false, reduceCtorEq, forall_const, ite_true, ite_false, implies_true, walkS, tabS, Try.results31, eq_true jI, jlt, q1, q2, q3, hkX, dA, jr, eq_false c1, eq_false c3, eq_true c4, hi, hiI, tX, treeL_i]
      refine callK (den_Contains X j) (by first | exact .inl rfl | exact .inr rfl) ?_
      simp (config := { maxSteps := 1000000 }) +decide only [NoH, Old, OldL, nilQ, nilA, asgn, nz, RechL, ReY, isNew, stepO, XPost, postN, XOk, updN, updU, isEff, avalue, aeff, ASt.eval, ASt.put, ASt.set, ASt.new, Nat.reduceDiv, Nat.reduceAdd, Int.reduceToNat, absV, absC, scalar, alen, acap, conc, flats, live, blkOf, aload, rd, part?, afieldAddr, afield, aindexAddr, cellsOf, afill, places, abuild, optI, asliceV, asliceS, szOk, srcCells, aappend, acopy, aclear, astore, amakeSlice, abuildSlice, snapL, mapO, treeL, AVal.tree, AVal.flatT, isFlat, ares, isFz, afroz, afrozB, lookupA, lookupH, tops, if_true, if_false, reduceCtorEq, forall_const, ite_true, ite_false, implies_true, walkS, tabS, Try.results31, eq_true c5, wj]
      refine ⟨⟨(j + 1, g2, G2), jlt⟩, ?_, by show L.length - (j + 1) < L.length - j; omega⟩
      refine weak_mk rfl (by first | exact Nat.le_refl _ | (simp only [mk_gen]; omega)) ?_ ?_ <;> simp +decide only [w_lookup_nil, w_lookup_cons, ch_ch, ch_lit, lit_ch, wkT, wkH, wkB, WVL, WV_refl', Int.natCast_zero, Int.natCast_add, Int.natCast_one, Nat.sub_self, Nat.sub_zero, List.replicate_zero, List.take_zero, List.nil_append, List.append_nil, fillC_zero, Nat.reduceDiv, Nat.reduceAdd, upd_bk, bk_at, getB_zero, getB_succ, modB_zero, modB_succ, rows_lit, repB_zero, repB_succ, List.length_cons, List.length_nil, upd_upd_same, upd_apply, mk_tmp, mk_heap, mk_gen, lookupA, lookupH, List.getD_cons_zero, List.getD_cons_succ, init_two, tops, Bool.true_and, and_self, and_true, true_and, true_or, if_true, if_false, ite_true, ite_false, reduceCtorEq, reduceIte, e]
  · have e : chN (tB A L L[it] c) d ch (j + 1) = X ++ [(j : Int)] := by rw [es, if_pos ⟨hT, c5⟩]
    have sn : mapC AVal.i X ++ [AVal.i j] = mapC AVal.i (X ++ [(j : Int)]) := by simp [mapC]
    have el : X.length + 1 = (X ++ [(j : Int)]).length := by simp
    by_cases c3 : L[j] = c
    · simp (config := { maxSteps := 1000000 }) +decide only [NoH, Old, OldL, nilQ, nilA, asgn, nz, RechL, ReY, isNew, stepO, XPost, postN, XOk, updN, updU, isEff, avalue, aeff, ASt.eval, ASt.put, ASt.set, ASt.new, Nat.reduceDiv, Nat.reduceAdd, Int.reduceToNat, absV, absC, scalar, alen, acap, conc, flats, live, blkOf, aload, rd, part?, afieldAddr, afield, aindexAddr, cellsOf, afill, places, abuild, optI, asliceV, asliceS, szOk, srcCells, aappend, acopy, aclear, astore, amakeSlice, abuildSlice, snapL, mapO, treeL, AVal.tree, AVal.flatT, isFlat, ares, isFz, afroz, afrozB, lookupA, lookupH, tops, if_true, if_false, reduceCtorEq, forall_const, ite_true, ite_false, implies_true, walkS, tabS, Try.results31, eq_true jI, jlt, q1, q2, q3, hkX, dA, jr, eq_false c1, eq_true c3, tX, treeL_i]
      refine callK (den_Contains X j) (by first | exact .inl rfl | exact .inr rfl) ?_
      simp (config := { maxSteps := 1000000 }) +decide only [NoH, Old, OldL, nilQ, nilA, asgn, nz, RechL, ReY, isNew, stepO, XPost, postN, XOk, updN, updU, isEff, avalue, aeff, ASt.eval, ASt.put, ASt.set, ASt.new, Nat.reduceDiv, Nat.reduceAdd, Int.reduceToNat, absV, absC, scalar, alen, acap, conc, flats, live, blkOf, aload, rd, part?, afieldAddr, afield, aindexAddr, cellsOf, afill, places, abuild, optI, asliceV, asliceS, szOk, srcCells, aappend, acopy, aclear, astore, amakeSlice, abuildSlice, snapL, mapO, treeL, AVal.tree, AVal.flatT, isFlat, ares, isFz, afroz, afrozB, lookupA, lookupH, tops, if_true, if_false, reduceCtorEq, forall_const, ite_true, ite_false, implies_true, walkS, tabS, Try.results31, eq_false c5, wj, tX, h8, List.replicate_succ, List.flatten_cons, List.flatten_nil, mapC_snoc]
      refine ⟨⟨(j + 1, G2 + 1, G2 + 1 + 1), jlt⟩, ?_, by show L.length - (j + 1) < L.length - j; omega⟩
      refine weak_mk rfl (by first | exact Nat.le_refl _ | (simp only [mk_gen]; omega)) ?_ ?_ <;> simp +decide only [w_lookup_nil, w_lookup_cons, ch_ch, ch_lit, lit_ch, wkT, wkH, wkB, WVL, WV_refl', Int.natCast_zero, Int.natCast_add, Int.natCast_one, Nat.sub_self, Nat.sub_zero, List.replicate_zero, List.take_zero, List.nil_append, List.append_nil, fillC_zero, Nat.reduceDiv, Nat.reduceAdd, upd_bk, bk_at, getB_zero, getB_succ, modB_zero, modB_succ, rows_lit, repB_zero, repB_succ, List.length_cons, List.length_nil, upd_upd_same, upd_apply, mk_tmp, mk_heap, mk_gen, lookupA, lookupH, List.getD_cons_zero, List.getD_cons_succ, init_two, tops, Bool.true_and, and_self, and_true, true_and, true_or, if_true, if_false, ite_true, ite_false, reduceCtorEq, reduceIte, e, el]
    · have c4 : L[j] = L[it] := c2.resolve_left c3
      simp (config := { maxSteps := 1000000 }) +decide only [NoH, Old, OldL, nilQ, nilA, asgn, nz, RechL, ReY, isNew, stepO, XPost, postN, XOk, updN, updU, isEff, avalue, aeff, ASt.eval, ASt.put, ASt.set, ASt.new, Nat.reduceDiv, Nat.reduceAdd, Int.reduceToNat, absV, absC, scalar, alen, acap, conc, flats, live, blkOf, aload, rd, part?, afieldAddr, afield, aindexAddr, cellsOf, afill, places, abuild, optI, asliceV, asliceS, szOk, srcCells, aappend, acopy, aclear, astore, amakeSlice, abuildSlice, snapL, mapO, treeL, AVal.tree, AVal.flatT, isFlat, ares, isFz, afroz, afrozB, lookupA, lookupH, tops, if_true, if_false, reduceCtorEq, forall_const, ite_true, ite_false, implies_true, walkS, tabS, Try.results31, eq_true jI, jlt, q1, q2, q3, hkX, dA, jr, eq_false c1, eq_false c3, eq_true c4, hi, hiI, tX, treeL_i]
      refine callK (den_Contains X j) (by first | exact .inl rfl | exact .inr rfl) ?_
      simp (config := { maxSteps := 1000000 }) +decide only [NoH, Old, OldL, nilQ, nilA, asgn, nz, RechL, ReY, isNew, stepO, XPost, postN, XOk, updN, updU, isEff, avalue, aeff, ASt.eval, ASt.put, ASt.set, ASt.new, Nat.reduceDiv, Nat.reduceAdd, Int.reduceToNat, absV, absC, scalar, alen, acap, conc, flats, live, blkOf, aload, rd, part?, afieldAddr, afield, aindexAddr, cellsOf, afill, places, abuild, optI, asliceV, asliceS, szOk, srcCells, aappend, acopy, aclear, astore, amakeSlice, abuildSlice, snapL, mapO, treeL, AVal.tree, AVal.flatT, isFlat, ares, isFz, afroz, afrozB, lookupA, lookupH, tops, if_true, if_false, reduceCtorEq, forall_const, ite_true, ite_false, implies_true, walkS, tabS, Try.results31, eq_false c5, wj, tX, h8, List.replicate_succ, List.flatten_cons, List.flatten_nil, mapC_snoc]
      refine ⟨⟨(j + 1, G2 + 1, G2 + 1 + 1), jlt⟩, ?_, by show L.length - (j + 1) < L.length - j; omega⟩
      refine weak_mk rfl (by first | exact Nat.le_refl _ | (simp only [mk_gen]; omega)) ?_ ?_ <;> simp +decide only [w_lookup_nil, w_lookup_cons, ch_ch, ch_lit, lit_ch, wkT, wkH, wkB, WVL, WV_refl', Int.natCast_zero, Int.natCast_add, Int.natCast_one, Nat.sub_self, Nat.sub_zero, List.replicate_zero, List.take_zero, List.nil_append, List.append_nil, fillC_zero, Nat.reduceDiv, Nat.reduceAdd, upd_bk, bk_at, getB_zero, getB_succ, modB_zero, modB_succ, rows_lit, repB_zero, repB_succ, List.length_cons, List.length_nil, upd_upd_same, upd_apply, mk_tmp, mk_heap, mk_gen, lookupA, lookupH, List.getD_cons_zero, List.getD_cons_succ, init_two, tops, Bool.true_and, and_self, and_true, true_and, true_or, if_true, if_false, ite_true, ite_false, reduceCtorEq, reduceIte, e, el]
theorem den_ChainOf {D A : List (List Int)} (L : List Int) (it : Nat) (c : Int) (hA : A.length ≤ 1000000) (h0 : chC D A L it c = 0) : Den Try.prog 7 [proV D A, ints L, .i it, .i c] (.tup [ints (sortI (chF A L it c)), .i 0]) := by
  obtain ⟨h, hS, hi, _⟩ := chC_zero.1 h0
  refine den_of_awpG (ghs [] [4]) Try.func7 rfl (by kernel_rfl) (Nat.le_of_ble_eq_true rfl) (by simp only [treeL, AVal.tree, treeL_i, treeL_ints, treeL_u8, treeL_append, Bool.and_self, Bool.and_true, Bool.true_and]) (by first | rfl | simp only [treeL, AVal.tree, treeL_i, treeL_ints, treeL_u8, treeL_append, Bool.and_self, Bool.and_true, Bool.true_and]) mixed (by kernel_rfl) fun hl => ?_
  simp only [lensL, lens, lensL_i, lensL_mapC, maxI, and_true, true_and] at hl
  rw [Try.ntmps7]
  refine ex_start ?_
  simp (config := { maxSteps := 1000000 }) +decide only [NoH, Old, OldL, nilQ, nilA, asgn, nz, RechL, ReY, isNew, stepO, XPost, postN, XOk, updN, updU, isEff, avalue, aeff, ASt.eval, ASt.put, ASt.set, ASt.new, Nat.reduceDiv, Nat.reduceAdd, Int.reduceToNat, absV, absC, scalar, alen, acap, conc, flats, live, blkOf, aload, rd, part?, afieldAddr, afield, aindexAddr, cellsOf, afill, places, abuild, optI, asliceV, asliceS, szOk, srcCells, aappend, acopy, aclear, astore, amakeSlice, abuildSlice, snapL, mapO, treeL, AVal.tree, AVal.flatT, isFlat, ares, isFz, afroz, afrozB, lookupA, lookupH, tops, if_true, if_false, reduceCtorEq, forall_const, ite_true, ite_false, implies_true, walkS, tabS, Try.results7]
  refine callK (den_chainCode D A L it c hA) (by first | exact .inl rfl | exact .inr rfl) ?_
  simp (config := { maxSteps := 1000000 }) +decide only [NoH, Old, OldL, nilQ, nilA, asgn, nz, RechL, ReY, isNew, stepO, XPost, postN, XOk, updN, updU, isEff, avalue, aeff, ASt.eval, ASt.put, ASt.set, ASt.new, Nat.reduceDiv, Nat.reduceAdd, Int.reduceToNat, absV, absC, scalar, alen, acap, conc, flats, live, blkOf, aload, rd, part?, afieldAddr, afield, aindexAddr, cellsOf, afill, places, abuild, optI, asliceV, asliceS, szOk, srcCells, aappend, acopy, aclear, astore, amakeSlice, abuildSlice, snapL, mapO, treeL, AVal.tree, AVal.flatT, isFlat, ares, isFz, afroz, afrozB, lookupA, lookupH, tops, if_true, if_false, reduceCtorEq, forall_const, ite_true, ite_false, implies_true, walkS, tabS, Try.results7, h0]
  refine callK (den_chain h L hS it (by omega) c) (by first | exact .inl rfl | exact .inr rfl) ?_
  simp (config := { maxSteps := 1000000 }) +decide only [NoH, Old, OldL, nilQ, nilA, asgn, nz, RechL, ReY, isNew, stepO, XPost, postN, XOk, updN, updU, isEff, avalue, aeff, ASt.eval, ASt.put, ASt.set, ASt.new, Nat.reduceDiv, Nat.reduceAdd, Int.reduceToNat, absV, absC, scalar, alen, acap, conc, flats, live, blkOf, aload, rd, part?, afieldAddr, afield, aindexAddr, cellsOf, afill, places, abuild, optI, asliceV, asliceS, szOk, srcCells, aappend, acopy, aclear, astore, amakeSlice, abuildSlice, snapL, mapO, treeL, AVal.tree, AVal.flatT, isFlat, ares, isFz, afroz, afrozB, lookupA, lookupH, tops, if_true, if_false, reduceCtorEq, forall_const, ite_true, ite_false, implies_true, walkS, tabS, Try.results7]
theorem den_ChainOfNo (D A : List (List Int)) (L : List Int) (it c : Int) (hA : A.length ≤ 1000000) (h0 : ¬ chC D A L it c = 0) : Den Try.prog 7 [proV D A, ints L, .i it, .i c] (.tup [ints [], .i (chC D A L it c)]) := by
  refine den_of_awpG (ghs [] [4]) Try.func7 rfl (by kernel_rfl) (Nat.le_of_ble_eq_true rfl) (by simp only [treeL, AVal.tree, treeL_i, treeL_ints, treeL_u8, treeL_append, Bool.and_self, Bool.and_true, Bool.true_and]) (by first | rfl | simp only [treeL, AVal.tree, treeL_i, treeL_ints, treeL_u8, treeL_append, Bool.and_self, Bool.and_true, Bool.true_and]) mixed (by kernel_rfl) fun hl => ?_
  simp only [lensL, lens, lensL_i, lensL_mapC, maxI, and_true, true_and] at hl
  rw [Try.ntmps7]
  refine ex_start ?_
  simp (config := { maxSteps := 1000000 }) +decide only [NoH, Old, OldL, nilQ, nilA, asgn, nz, RechL, ReY, isNew, stepO, XPost, postN, XOk, updN, updU, isEff, avalue, aeff, ASt.eval, ASt.put, ASt.set, ASt.new, Nat.reduceDiv, Nat.reduceAdd, Int.reduceToNat, absV, absC, scalar, alen, acap, conc, flats, live, blkOf, aload, rd, part?, afieldAddr, afield, aindexAddr, cellsOf, afill, places, abuild, optI, asliceV, asliceS, szOk, srcCells, aappend, acopy, aclear, astore, amakeSlice, abuildSlice, snapL, mapO, treeL, AVal.tree, AVal.flatT, isFlat, ares, isFz, afroz, afrozB, lookupA, lookupH, tops, if_true, if_false, reduceCtorEq, forall_const, ite_true, ite_false, implies_true, walkS, tabS, Try.results7]
  refine callK (den_chainCode D A L it c hA) (by first | exact .inl rfl | exact .inr rfl) ?_
  simp (config := { maxSteps := 1000000 }) +decide only [NoH, Old, OldL, nilQ, nilA, asgn, nz, RechL, ReY, isNew, stepO, XPost, postN, XOk, updN, updU, isEff, avalue, aeff, ASt.eval, ASt.put, ASt.set, ASt.new, Nat.reduceDiv, Nat.reduceAdd, Int.reduceToNat, absV, absC, scalar, alen, acap, conc, flats, live, blkOf, aload, rd, part?, afieldAddr, afield, aindexAddr, cellsOf, afill, places, abuild, optI, asliceV, asliceS, szOk, srcCells, aappend, acopy, aclear, astore, amakeSlice, abuildSlice, snapL, mapO, treeL, AVal.tree, AVal.flatT, isFlat, ares, isFz, afroz, afrozB, lookupA, lookupH, tops, if_true, if_false, reduceCtorEq, forall_const, ite_true, ite_false, implies_true, walkS, tabS, Try.results7, eq_false h0, mapC_nil]
  try rfl
/-- channels exchanged along the chain -/
noncomputable def swF (A : List (List Int)) (L : List Int) (it : Nat) (c : Int) : List Int := swK (L.getD it 0) c L (sortI (chF A L it c))
noncomputable def swR (D A : List (List Int)) (L : List Int) (it : Nat) (c : Int) : List Int := if bp (FitOk D (swF A L it c) ∧ NoVio A (swF A L it c)) = true then swF A L it c else []
noncomputable def swE (D A : List (List Int)) (L : List Int) (it : Nat) (c : Int) : Int := if bp (FitOk D (swF A L it c) ∧ NoVio A (swF A L it c)) = true then 0 else 3
theorem den_SwapChainNo (D A : List (List Int)) (L : List Int) (it c : Int) (hA : A.length ≤ 1000000) (h0 : ¬ chC D A L it c = 0) : Den Try.prog 8 [proV D A, ints L, .i it, .i c] (.tup [ints [], .i (chC D A L it c)]) := by
  refine den_of_awpG (ghs [] [4]) Try.func8 rfl (by kernel_rfl) (Nat.le_of_ble_eq_true rfl) (by simp only [treeL, AVal.tree, treeL_i, treeL_ints, treeL_u8, treeL_append, Bool.and_self, Bool.and_true, Bool.true_and]) (by first | rfl | simp only [treeL, AVal.tree, treeL_i, treeL_ints, treeL_u8, treeL_append, Bool.and_self, Bool.and_true, Bool.true_and]) mixed (by kernel_rfl) fun hl => ?_
  simp only [lensL, lens, lensL_i, lensL_mapC, maxI, and_true, true_and] at hl
  rw [Try.ntmps8]
  refine ex_start ?_
  simp (config := { maxSteps := 1000000 }) +decide only [NoH, Old, OldL, nilQ, nilA, asgn, nz, RechL, ReY, isNew, stepO, XPost, postN, XOk, updN, updU, isEff, avalue, aeff, ASt.eval, ASt.put, ASt.set, ASt.new, Nat.reduceDiv, Nat.reduceAdd, Int.reduceToNat, absV, absC, scalar, alen, acap, conc, flats, live, blkOf, aload, rd, part?, afieldAddr, afield, aindexAddr, cellsOf, afill, places, abuild, optI, asliceV, asliceS, szOk, srcCells, aappend, acopy, aclear, astore, amakeSlice, abuildSlice, snapL, mapO, treeL, AVal.tree, AVal.flatT, isFlat, ares, isFz, afroz, afrozB, lookupA, lookupH, tops, if_true, if_false, reduceCtorEq, forall_const, ite_true, ite_false, implies_true, walkS, tabS, Try.results8]
  refine callK (den_chainCode D A L it c hA) (by first | exact .inl rfl | exact .inr rfl) ?_
  simp (config := { maxSteps := 1000000 }) +decide only [NoH, Old, OldL, nilQ, nilA, asgn, nz, RechL, ReY, isNew, stepO, XPost, postN, XOk, updN, updU, isEff, avalue, aeff, ASt.eval, ASt.put, ASt.set, ASt.new, Nat.reduceDiv, Nat.reduceAdd, Int.reduceToNat, absV, absC, scalar, alen, acap, conc, flats, live, blkOf, aload, rd, part?, afieldAddr, afield, aindexAddr, cellsOf, afill, places, abuild, optI, asliceV, asliceS, szOk, srcCells, aappend, acopy, aclear, astore, amakeSlice, abuildSlice, snapL, mapO, treeL, AVal.tree, AVal.flatT, isFlat, ares, isFz, afroz, afrozB, lookupA, lookupH, tops, if_true, if_false, reduceCtorEq, forall_const, ite_true, ite_false, implies_true, walkS, tabS, Try.results8, eq_false h0, mapC_nil]
  try rfl
theorem srt_ok {n : Nat} {ch : List Int} (h : ChOk n ch) : ChOk n (sortI ch) := ⟨(sortI_perm ch).nodup_iff.2 h.nd, fun x hx => h.inn x (sortI_mem.1 hx)⟩
theorem swF_st {D A : List (List Int)} {L : List Int} {it : Nat} {c : Int} (hS : StOk D L) (hi : it < L.length) (hc : 0 ≤ c ∧ c ≤ 999) : StOk D (swF A L it c) := by
  obtain ⟨h1, h2, h3⟩ := chF_ok (A := A) (c := c) hi
  refine ⟨by unfold swF; rw [swK_len]; exact hS.1, fun x hx => ?_⟩
  obtain ⟨j, hj, rfl⟩ := List.getElem_of_mem hx
  have e : (swF A L it c)[j] = (swF A L it c).getD j 0 := by rw [List.getD_eq_getElem?_getD, List.getElem?_eq_getElem hj, Option.getD_some]
  have hjL : j < L.length := by unfold swF at hj; rwa [swK_len] at hj
  have g : ∀ i : Nat, i < L.length → 0 ≤ L.getD i 0 ∧ L.getD i 0 ≤ 999 := fun i hi => by
    rw [List.getD_eq_getElem?_getD, List.getElem?_eq_getElem hi, Option.getD_some]
    exact hS.2 _ (List.getElem_mem hi)
  rw [e]
  unfold swF
  rw [swK_at _ _ (srt_ok h1)]
  split
  · unfold oth
    split
    · exact hc
    · exact g it hi
  · exact g j hjL
theorem den_SwapChain {D A : List (List Int)} (L : List Int) (it : Nat) (c : Int) (hA : A.length ≤ 1000000) (h0 : chC D A L it c = 0) : Den Try.prog 8 [proV D A, ints L, .i it, .i c] (.tup [ints (swR D A L it c), .i (swE D A L it c)]) := by
  unfold swR swE
  obtain ⟨h, hS, hi, hc⟩ := chC_zero.1 h0
  have hn := h.few
  have hL := hS.1
  have hi' : it < L.length := by omega
  have hiI : (it : Int) < (L.length : Int) := by omega
  have eit : L.getD it 0 = L[it] := by rw [List.getD_eq_getElem?_getD, List.getElem?_eq_getElem hi', Option.getD_some]
  have hch := (chF_ok (A := A) (c := c) hi').1
  have hso := srt_ok hch
  have hfin := swF_st (A := A) hS hi' hc.1
  have hFe : swF A L it c = swK L[it] c L (sortI (chF A L it c)) := by unfold swF; rw [eit]
  have tF : List.take L.length (swF A L it c) = swF A L it c := List.take_of_length_le (by rw [hfin.1]; omega)
  have lF : (swF A L it c).length = L.length := by rw [hfin.1]; omega
  have dV := den_implValidA h (swF A L it c) hfin
  have dC := den_chain h L hS it hi' c
  have eF : ints (swF A L it c) = .lst (mapC AVal.i (swF A L it c)) L.length := by show AVal.lst _ _ = _; rw [lF]
  rw [eF] at dV
  generalize swF A L it c = F at *
  have cl := hso.len
  generalize sortI (chF A L it c) = C at *
  refine den_of_awpG (ghs [] [4]) Try.func8 rfl (by kernel_rfl) (Nat.le_of_ble_eq_true rfl) (by simp only [treeL, AVal.tree, treeL_i, treeL_ints, treeL_u8, treeL_append, Bool.and_self, Bool.and_true, Bool.true_and]) (by first | rfl | simp only [treeL, AVal.tree, treeL_i, treeL_ints, treeL_u8, treeL_append, Bool.and_self, Bool.and_true, Bool.true_and]) mixed (by kernel_rfl) fun hl => ?_
  simp only [lensL, lens, lensL_i, lensL_mapC, maxI, and_true, true_and] at hl
  rw [Try.ntmps8]
  refine ex_start ?_
  simp (config := { maxSteps := 1000000 }) +decide only [NoH, Old, OldL, nilQ, nilA, asgn, nz, RechL, ReY, isNew, stepO, XPost, postN, XOk, updN, updU, isEff, avalue, aeff, ASt.eval, ASt.put, ASt.set, ASt.new, Nat.reduceDiv, Nat.reduceAdd, Int.reduceToNat, absV, absC, scalar, alen, acap, conc, flats, live, blkOf, aload, rd, part?, afieldAddr, afield, aindexAddr, cellsOf, afill, places, abuild, optI, asliceV, asliceS, szOk, srcCells, aappend, acopy, aclear, astore, amakeSlice, abuildSlice, snapL, mapO, treeL, AVal.tree, AVal.flatT, isFlat, ares, isFz, afroz, afrozB, lookupA, lookupH, tops, if_true, if_false, reduceCtorEq, forall_const, ite_true, ite_false, implies_true, walkS, tabS, Try.results8]
  refine callK (den_chainCode D A L it c hA) (by first | exact .inl rfl | exact .inr rfl) ?_
  simp (config := { maxSteps := 1000000 }) +decide only [NoH, Old, OldL, nilQ, nilA, asgn, nz, RechL, ReY, isNew, stepO, XPost, postN, XOk, updN, updU, isEff, avalue, aeff, ASt.eval, ASt.put, ASt.set, ASt.new, Nat.reduceDiv, Nat.reduceAdd, Int.reduceToNat, absV, absC, scalar, alen, acap, conc, flats, live, blkOf, aload, rd, part?, afieldAddr, afield, aindexAddr, cellsOf, afill, places, abuild, optI, asliceV, asliceS, szOk, srcCells, aappend, acopy, aclear, astore, amakeSlice, abuildSlice, snapL, mapO, treeL, AVal.tree, AVal.flatT, isFlat, ares, isFz, afroz, afrozB, lookupA, lookupH, tops, if_true, if_false, reduceCtorEq, forall_const, ite_true, ite_false, implies_true, walkS, tabS, Try.results8, h0, hi', hiI]
  refine callX (denx_Clone L (by omega)) (by simp (config := { maxSteps := 1000000 }) +decide only [NoH, Old, OldL, nilQ, nilA, asgn, nz, RechL, ReY, isNew, stepO, XPost, postN, XOk, updN, updU, isEff, avalue, aeff, ASt.eval, ASt.put, ASt.set, ASt.new, Nat.reduceDiv, Nat.reduceAdd, Int.reduceToNat, absV, absC, scalar, alen, acap, conc, flats, live, blkOf, aload, rd, part?, afieldAddr, afield, aindexAddr, cellsOf, afill, places, abuild, optI, asliceV, asliceS, szOk, srcCells, aappend, acopy, aclear, astore, amakeSlice, abuildSlice, snapL, mapO, treeL, AVal.tree, AVal.flatT, isFlat, ares, isFz, afroz, afrozB, lookupA, lookupH, tops, if_true, if_false, reduceCtorEq, forall_const, ite_true, ite_false, implies_true, walkS, tabS, Try.results8, hi', hiI]) ?_
  simp (config := { maxSteps := 1000000 }) +decide only [NoH, Old, OldL, nilQ, nilA, asgn, nz, RechL, ReY, isNew, stepO, XPost, postN, XOk, updN, updU, isEff, avalue, aeff, ASt.eval, ASt.put, ASt.set, ASt.new, Nat.reduceDiv, Nat.reduceAdd, Int.reduceToNat, absV, absC, scalar, alen, acap, conc, flats, live, blkOf, aload, rd, part?, afieldAddr, afield, aindexAddr, cellsOf, afill, places, abuild, optI, asliceV, asliceS, szOk, srcCells, aappend, acopy, aclear, astore, amakeSlice, abuildSlice, snapL, mapO, treeL, AVal.tree, AVal.flatT, isFlat, ares, isFz, afroz, afrozB, lookupA, lookupH, tops, if_true, if_false, reduceCtorEq, forall_const, ite_true, ite_false, implies_true, walkS, tabS, Try.results8, hi', hiI]
  refine callK (dC) (by first | exact .inl rfl | exact .inr rfl) ?_
  simp (config := { maxSteps := 1000000 }) +decide only [NoH, Old, OldL, nilQ, nilA, asgn, nz, RechL, ReY, isNew, stepO, XPost, postN, XOk, updN, updU, isEff, avalue, aeff, ASt.eval, ASt.put, ASt.set, ASt.new, Nat.reduceDiv, Nat.reduceAdd, Int.reduceToNat, absV, absC, scalar, alen, acap, conc, flats, live, blkOf, aload, rd, part?, afieldAddr, afield, aindexAddr, cellsOf, afill, places, abuild, optI, asliceV, asliceS, szOk, srcCells, aappend, acopy, aclear, astore, amakeSlice, abuildSlice, snapL, mapO, treeL, AVal.tree, AVal.flatT, isFlat, ares, isFz, afroz, afrozB, lookupA, lookupH, tops, if_true, if_false, reduceCtorEq, forall_const, ite_true, ite_false, implies_true, walkS, tabS, Try.results8]
  refine ex_loop (fun p : {p : Nat × Nat // p.1 ≤ C.length} => mkG (ghs [] [4]) [(3, .i c), (4, proP D A), (11, .own 24 0 0 L.length), (12, .i L[it]), (33, ints C), (34, .i C.length), (35, .i p.1.1)] [(24, ⟨0, 1, mapC AVal.i (swK L[it] c L (C.take p.1.1))⟩)] p.1.2 59) (fun p => C.length - p.1.1) ⟨(0, 1), Nat.zero_le _⟩ ?_ ?_
  · have e0 : swK L[it] c L [] = L := rfl
    refine weak_mk rfl (by first | exact Nat.le_refl _ | (simp only [mk_gen]; omega)) ?_ ?_ <;> simp +decide only [w_lookup_nil, w_lookup_cons, ch_ch, ch_lit, lit_ch, wkT, wkH, wkB, WVL, WV_refl', Int.natCast_zero, Int.natCast_add, Int.natCast_one, Nat.sub_self, Nat.sub_zero, List.replicate_zero, List.take_zero, List.nil_append, List.append_nil, fillC_zero, Nat.reduceDiv, Nat.reduceAdd, upd_bk, bk_at, getB_zero, getB_succ, modB_zero, modB_succ, rows_lit, repB_zero, repB_succ, List.length_cons, List.length_nil, upd_upd_same, upd_apply, mk_tmp, mk_heap, mk_gen, lookupA, lookupH, List.getD_cons_zero, List.getD_cons_succ, init_two, tops, Bool.true_and, and_self, and_true, true_and, true_or, if_true, if_false, ite_true, ite_false, reduceCtorEq, reduceIte, e0]
  rintro ⟨⟨k, G⟩, hk⟩
  have hk' : k ≤ C.length := hk
  have lX := swK_len L[it] c (C.take k) L
  have tX : List.take L.length (swK L[it] c L (C.take k)) = swK L[it] c L (C.take k) := List.take_of_length_le (by omega)
  by_cases hlt : k < C.length
  case neg =>
    have e : k = C.length := by omega
    subst e
    have kI : ¬ (C.length : Int) < (C.length : Int) := by omega
    have eC : swK L[it] c L (C.take C.length) = F := by rw [List.take_length, ← hFe]
    rw [eC] at tX lX ⊢
    simp (config := { maxSteps := 1000000 }) +decide only [NoH, Old, OldL, nilQ, nilA, asgn, nz, RechL, ReY, isNew, stepO, XPost, postN, XOk, updN, updU, isEff, avalue, aeff, ASt.eval, ASt.put, ASt.set, ASt.new, Nat.reduceDiv, Nat.reduceAdd, Int.reduceToNat, absV, absC, scalar, alen, acap, conc, flats, live, blkOf, aload, rd, part?, afieldAddr, afield, aindexAddr, cellsOf, afill, places, abuild, optI, asliceV, asliceS, szOk, srcCells, aappend, acopy, aclear, astore, amakeSlice, abuildSlice, snapL, mapO, treeL, AVal.tree, AVal.flatT, isFlat, ares, isFz, afroz, afrozB, lookupA, lookupH, tops, if_true, if_false, reduceCtorEq, forall_const, ite_true, ite_false, implies_true, walkS, tabS, Try.results8, eq_false kI, lF, tX, treeL_i]
    refine callK (dV) (by first | exact .inl rfl | exact .inr rfl) ?_
    by_cases hv : FitOk D F ∧ NoVio A F
    · have bv : bp (FitOk D F ∧ NoVio A F) = true := by rw [bp_true]; exact hv
      rw [bv, if_pos rfl, if_pos rfl]
      simp (config := { maxSteps := 1000000 }) +decide only [NoH, Old, OldL, nilQ, nilA, asgn, nz, RechL, ReY, isNew, stepO, XPost, postN, XOk, updN, updU, isEff, avalue, aeff, ASt.eval, ASt.put, ASt.set, ASt.new, Nat.reduceDiv, Nat.reduceAdd, Int.reduceToNat, absV, absC, scalar, alen, acap, conc, flats, live, blkOf, aload, rd, part?, afieldAddr, afield, aindexAddr, cellsOf, afill, places, abuild, optI, asliceV, asliceS, szOk, srcCells, aappend, acopy, aclear, astore, amakeSlice, abuildSlice, snapL, mapO, treeL, AVal.tree, AVal.flatT, isFlat, ares, isFz, afroz, afrozB, lookupA, lookupH, tops, if_true, if_false, reduceCtorEq, forall_const, ite_true, ite_false, implies_true, walkS, tabS, Try.results8, eq_true hv, lF, tX, treeL_i]
      try rfl
    · have bv : bp (FitOk D F ∧ NoVio A F) = false := by rw [bp_false]; exact hv
      rw [bv, if_neg (by simp), if_neg (by simp)]
      simp (config := { maxSteps := 1000000 }) +decide only [NoH, Old, OldL, nilQ, nilA, asgn, nz, RechL, ReY, isNew, stepO, XPost, postN, XOk, updN, updU, isEff, avalue, aeff, ASt.eval, ASt.put, ASt.set, ASt.new, Nat.reduceDiv, Nat.reduceAdd, Int.reduceToNat, absV, absC, scalar, alen, acap, conc, flats, live, blkOf, aload, rd, part?, afieldAddr, afield, aindexAddr, cellsOf, afill, places, abuild, optI, asliceV, asliceS, szOk, srcCells, aappend, acopy, aclear, astore, amakeSlice, abuildSlice, snapL, mapO, treeL, AVal.tree, AVal.flatT, isFlat, ares, isFz, afroz, afrozB, lookupA, lookupH, tops, if_true, if_false, reduceCtorEq, forall_const, ite_true, ite_false, implies_true, walkS, tabS, Try.results8, eq_false hv, lF, tX, treeL_i, mapC_nil]
      try rfl
  have kI : (k : Int) < (C.length : Int) := by omega
  have wk : IntKind.i64.wrap ((k : Int) + 1) = ((k + 1 : Nat) : Int) := wrap64 (by omega) (by omega)
  have hx := hso.inn _ (List.getElem_mem hlt)
  obtain ⟨j, hj⟩ : ∃ j : Nat, C[k] = (j : Int) := ⟨C[k].toNat, by omega⟩
  have jL : j < L.length := by omega
  have jLI : (j : Int) < (L.length : Int) := by omega
  have sn := swK_snoc L[it] c L C hlt
  rw [hj, Int.toNat_natCast] at sn
  generalize swK L[it] c L (C.take k) = X at *
  have jX : j < X.length := by omega
  have eX : X.getD j 0 = X[j] := by rw [List.getD_eq_getElem?_getD, List.getElem?_eq_getElem jX, Option.getD_some]
  rw [eX] at sn
  unfold oth at sn
  have gX : X[j]? = some X[j] := List.getElem?_eq_getElem jX
  have gX2 : (mapC AVal.i X)[j]? = some (.i X[j]) := by simp [mapC, jX]
  by_cases c1 : X[j] = L[it]
  · rw [if_pos c1] at sn
    simp (config := { maxSteps := 1000000 }) +decide only [NoH, Old, OldL, nilQ, nilA, asgn, nz, RechL, ReY, isNew, stepO, XPost, postN, XOk, updN, updU, isEff, avalue, aeff, ASt.eval, ASt.put, ASt.set, ASt.new, Nat.reduceDiv, Nat.reduceAdd, Int.reduceToNat, absV, absC, scalar, alen, acap, conc, flats, live, blkOf, aload, rd, part?, afieldAddr, afield, aindexAddr, cellsOf, afill, places, abuild, optI, asliceV, asliceS, szOk, srcCells, aappend, acopy, aclear, astore, amakeSlice, abuildSlice, snapL, mapO, treeL, AVal.tree, AVal.flatT, isFlat, ares, isFz, afroz, afrozB, lookupA, lookupH, tops, if_true, if_false, reduceCtorEq, forall_const, ite_true, ite_false, implies_true, walkS, tabS, Try.results8, eq_true kI, hlt, hj, jL, jLI, jX, lX, tX, gX, gX2, eq_true c1, mapC_set, wk]
    refine ⟨⟨(k + 1, G), hlt⟩, ?_, by show C.length - (k + 1) < C.length - k; omega⟩
    refine weak_mk rfl (by first | exact Nat.le_refl _ | (simp only [mk_gen]; omega)) ?_ ?_ <;> simp +decide only [w_lookup_nil, w_lookup_cons, ch_ch, ch_lit, lit_ch, wkT, wkH, wkB, WVL, WV_refl', Int.natCast_zero, Int.natCast_add, Int.natCast_one, Nat.sub_self, Nat.sub_zero, List.replicate_zero, List.take_zero, List.nil_append, List.append_nil, fillC_zero, Nat.reduceDiv, Nat.reduceAdd, upd_bk, bk_at, getB_zero, getB_succ, modB_zero, modB_succ, rows_lit, repB_zero, repB_succ, List.length_cons, List.length_nil, upd_upd_same, upd_apply, mk_tmp, mk_heap, mk_gen, lookupA, lookupH, List.getD_cons_zero, List.getD_cons_succ, init_two, tops, Bool.true_and, and_self, and_true, true_and, true_or, if_true, if_false, ite_true, ite_false, reduceCtorEq, reduceIte, sn]
  · rw [if_neg c1] at sn
    simp (config := { maxSteps := 1000000 }) +decide only [NoH, Old, OldL, nilQ, nilA, asgn, nz, RechL, ReY, isNew, stepO, XPost, postN, XOk, updN, updU, isEff, avalue, aeff, ASt.eval, ASt.put, ASt.set, ASt.new, Nat.reduceDiv, Nat.reduceAdd, Int.reduceToNat, absV, absC, scalar, alen, acap, conc, flats, live, blkOf, aload, rd, part?, afieldAddr, afield, aindexAddr, cellsOf, afill, places, abuild, optI, asliceV, asliceS, szOk, srcCells, aappend, acopy, aclear, astore, amakeSlice, abuildSlice, snapL, mapO, treeL, AVal.tree, AVal.flatT, isFlat, ares, isFz, afroz, afrozB, lookupA, lookupH, tops, if_true, if_false, reduceCtorEq, forall_const, ite_true, ite_false, implies_true, walkS, tabS, Try.results8, eq_true kI, hlt, hj, jL, jLI, jX, lX, tX, gX, gX2, eq_false c1, mapC_set, wk]
    refine ⟨⟨(k + 1, G), hlt⟩, ?_, by show C.length - (k + 1) < C.length - k; omega⟩
    refine weak_mk rfl (by first | exact Nat.le_refl _ | (simp only [mk_gen]; omega)) ?_ ?_ <;> simp +decide only [w_lookup_nil, w_lookup_cons, ch_ch, ch_lit, lit_ch, wkT, wkH, wkB, WVL, WV_refl', Int.natCast_zero, Int.natCast_add, Int.natCast_one, Nat.sub_self, Nat.sub_zero, List.replicate_zero, List.take_zero, List.nil_append, List.append_nil, fillC_zero, Nat.reduceDiv, Nat.reduceAdd, upd_bk, bk_at, getB_zero, getB_succ, modB_zero, modB_succ, rows_lit, repB_zero, repB_succ, List.length_cons, List.length_nil, upd_upd_same, upd_apply, mk_tmp, mk_heap, mk_gen, lookupA, lookupH, List.getD_cons_zero, List.getD_cons_succ, init_two, tops, Bool.true_and, and_self, and_true, true_and, true_or, if_true, if_false, ite_true, ite_false, reduceCtorEq, reduceIte, sn]
end Go.Proofs.Ytkmhoebopfgpdaa
