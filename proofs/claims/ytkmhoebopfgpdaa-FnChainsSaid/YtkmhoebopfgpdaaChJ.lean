/-
  OWN WORK: the reference's search for an assignment near a state.
-/
import Derived.Test.YtkmhoebopfgpdaaChI
namespace Go.Proofs.Ytkmhoebopfgpdaa
open Go Go.Own Go.Proofs
set_option maxHeartbeats 4000000
set_option maxRecDepth 20000
set_option linter.unusedSimpArgs false
set_option linter.unusedVariables false
abbrev FSt := List Int × Int × Bool
def nr (x y a : Int) : Prop := IntKind.i64.wrap (x - y) < a ∧ IntKind.i64.wrap (y - x) < a
noncomputable def fitV (A : List (List Int)) (L : List Int) (c : Int) : Bool := bp (∀ k : Nat, k < L.length → ¬ nr c (L.getD k 0) (ap A L.length k))
noncomputable def tryF (run : FSt → FSt × Bool) (A : List (List Int)) (c : Int) (st : FSt) : FSt × Bool :=
  if fitV A st.1 c = false then (st, false)
  else if (st.2.2 || decide (st.2.1 = 300)) = true then ((st.1, st.2.1, true), false)
  else if (run (st.1 ++ [c], st.2.1 + 1, false)).2 = true then ((run (st.1 ++ [c], st.2.1 + 1, false)).1, true)
  else ((st.1, (run (st.1 ++ [c], st.2.1 + 1, false)).1.2), false)
noncomputable def loopF (run : FSt → FSt × Bool) (A : List (List Int)) (x : Int) : List Int → FSt → FSt × Bool
  | [], st => (st, false)
  | c :: cs, st => if c = x then loopF run A x cs st else if (tryF run A c st).2 = true then tryF run A c st else loopF run A x cs (tryF run A c st).1
noncomputable def runF (D A : List (List Int)) (l : List Int) : Nat → Int → FSt → FSt × Bool
  | 0, _, st => (st, true)
  | f + 1, left, st =>
    if bp (l.getD st.1.length 0 ∈ D.getD st.1.length []) = true then
      (if (tryF (runF D A l f left) A (l.getD st.1.length 0) st).2 = true then tryF (runF D A l f left) A (l.getD st.1.length 0) st
       else if left = 0 then ((tryF (runF D A l f left) A (l.getD st.1.length 0) st).1, false)
       else loopF (runF D A l f (left - 1)) A (l.getD st.1.length 0) (D.getD st.1.length []) (tryF (runF D A l f left) A (l.getD st.1.length 0) st).1)
    else if left = 0 then (st, false)
    else loopF (runF D A l f (left - 1)) A (l.getD st.1.length 0) (D.getD st.1.length []) st
/-- what a search leaves -/
structure FOk (N : Nat) (st : FSt) (r : FSt × Bool) : Prop where
  yes : r.2 = true → r.1.1.length = N
  no : r.2 = false → r.1.1 = st.1
  lo : 0 ≤ r.1.2.1
  hi : r.1.2.1 ≤ 300
def FIn (st : FSt) : Prop := 0 ≤ st.2.1 ∧ st.2.1 ≤ 300
theorem tryF_ok {N f : Nat} {run : FSt → FSt × Bool} {A : List (List Int)} {c : Int} {st : FSt} (hs : FIn st) (hl : st.1.length + (f + 1) = N) (h : ∀ st' : FSt, st'.1.length + f = N → FIn st' → FOk N st' (run st')) : FOk N st (tryF run A c st) := by
  obtain ⟨h1, h2⟩ := hs
  unfold tryF
  split
  · exact ⟨fun h => by simp at h, fun _ => rfl, h1, h2⟩
  · split
    · exact ⟨fun h => by simp at h, fun _ => rfl, h1, h2⟩
    · rename_i hb
      have hne : ¬ st.2.1 = 300 := fun e => hb (by simp [e])
      have hr := h (st.1 ++ [c], st.2.1 + 1, false) (by simp; omega) ⟨by show 0 ≤ st.2.1 + 1; omega, by show st.2.1 + 1 ≤ 300; omega⟩
      split
      · rename_i ht
        exact ⟨fun _ => hr.yes ht, fun h => by simp at h, hr.lo, hr.hi⟩
      · exact ⟨fun h => by simp at h, fun _ => rfl, hr.lo, hr.hi⟩
theorem loopF_ok {N f : Nat} {run : FSt → FSt × Bool} {A : List (List Int)} {x : Int} (h : ∀ st' : FSt, st'.1.length + f = N → FIn st' → FOk N st' (run st')) : ∀ (cs : List Int) (st : FSt), FIn st → st.1.length + (f + 1) = N → FOk N st (loopF run A x cs st)
  | [], st, hs, hl => ⟨fun h => by simp [loopF] at h, fun _ => rfl, hs.1, hs.2⟩
  | c :: cs, st, hs, hl => by
    have ht := tryF_ok (c := c) (A := A) hs hl h
    unfold loopF
    split
    · exact loopF_ok h cs st hs hl
    · split
      · exact ht
      · rename_i hb
        have hf : (tryF run A c st).2 = false := by simpa using hb
        have e := ht.no hf
        have := loopF_ok (A := A) (x := x) h cs (tryF run A c st).1 ⟨ht.lo, ht.hi⟩ (by rw [e]; exact hl)
        exact ⟨this.yes, fun h' => (this.no h').trans e, this.lo, this.hi⟩
theorem runF_ok (D A : List (List Int)) (l : List Int) (N : Nat) : ∀ (f : Nat) (left : Int) (st : FSt), st.1.length + f = N → FIn st → FOk N st (runF D A l f left st)
  | 0, left, st, hl, hs => ⟨fun _ => by show st.1.length = N; omega, fun h => by simp [runF] at h, hs.1, hs.2⟩
  | f + 1, left, st, hl, hs => by
    have ih := fun left => runF_ok D A l N f left
    have ht := tryF_ok (c := l.getD st.1.length 0) (A := A) hs hl (ih left)
    unfold runF
    split
    · split
      · exact ht
      · rename_i hb
        have hf : (tryF (runF D A l f left) A (l.getD st.1.length 0) st).2 = false := by simpa using hb
        have e := ht.no hf
        split
        · exact ⟨fun h => by simp at h, fun _ => e, ht.lo, ht.hi⟩
        · have := loopF_ok (x := l.getD st.1.length 0) (A := A) (ih (left - 1)) (D.getD st.1.length []) (tryF (runF D A l f left) A (l.getD st.1.length 0) st).1 ⟨ht.lo, ht.hi⟩ (by rw [e]; exact hl)
          exact ⟨this.yes, fun h' => (this.no h').trans e, this.lo, this.hi⟩
    · split
      · exact ⟨fun h => by simp at h, fun _ => rfl, hs.1, hs.2⟩
      · exact loopF_ok (ih (left - 1)) _ st hs hl
theorem den_l19Near (a b d : Int) : Den Try.prog 123 [.i a, .i b, .i d] (.b (bp (nr a b d))) := by
  refine den_of_awp Try.func123 rfl (by kernel_rfl) (Nat.le_of_ble_eq_true rfl) (by simp only [treeL, AVal.tree, treeL_i, treeL_ints, treeL_u8, treeL_append, Bool.and_self, Bool.and_true, Bool.true_and]) (by first | rfl | simp only [treeL, AVal.tree, treeL_i, treeL_ints, treeL_u8, treeL_append, Bool.and_self, Bool.and_true, Bool.true_and]) mixed (by kernel_rfl) fun hl => ?_
  simp only [lensL, lens, lensL_i, lensL_mapC, maxI, and_true, true_and] at hl
  rw [Try.ntmps123]
  refine ex_start ?_
  by_cases h1 : IntKind.i64.wrap (a - b) < d
  · by_cases h2 : IntKind.i64.wrap (b - a) < d
    · have hN : nr a b d := ⟨h1, h2⟩
      simp (config := { maxSteps := 1000000 }) +decide only [NoH, Old, OldL, nilQ, nilA, asgn, nz, RechL, ReY, isNew, stepO, XPost, postN, XOk, updN, updU, isEff, avalue, aeff, ASt.eval, ASt.put, ASt.set, ASt.new, Nat.reduceDiv, Nat.reduceAdd, Int.reduceToNat, absV, absC, scalar, alen, acap, conc, flats, live, blkOf, aload, rd, part?, afieldAddr, afield, aindexAddr, cellsOf, afill, places, abuild, optI, asliceV, asliceS, szOk, srcCells, aappend, acopy, aclear, astore, amakeSlice, abuildSlice, snapL, mapO, treeL, AVal.tree, AVal.flatT, isFlat, ares, isFz, afroz, afrozB, lookupA, lookupH, tops, if_true, if_false, reduceCtorEq, forall_const, ite_true, ite_false, implies_true, walkS, tabS, Try.results123, eq_true h1, eq_true h2, eq_true hN]
    · have hN : ¬ nr a b d := fun h => h2 h.2
      simp (config := { maxSteps := 1000000 }) +decide only [NoH, Old, OldL, nilQ, nilA, asgn, nz, RechL, ReY, isNew, stepO, XPost, postN, XOk, updN, updU, isEff, avalue, aeff, ASt.eval, ASt.put, ASt.set, ASt.new, Nat.reduceDiv, Nat.reduceAdd, Int.reduceToNat, absV, absC, scalar, alen, acap, conc, flats, live, blkOf, aload, rd, part?, afieldAddr, afield, aindexAddr, cellsOf, afill, places, abuild, optI, asliceV, asliceS, szOk, srcCells, aappend, acopy, aclear, astore, amakeSlice, abuildSlice, snapL, mapO, treeL, AVal.tree, AVal.flatT, isFlat, ares, isFz, afroz, afrozB, lookupA, lookupH, tops, if_true, if_false, reduceCtorEq, forall_const, ite_true, ite_false, implies_true, walkS, tabS, Try.results123, eq_true h1, eq_false h2, eq_false hN]
  · have hN : ¬ nr a b d := fun h => h1 h.1
    simp (config := { maxSteps := 1000000 }) +decide only [NoH, Old, OldL, nilQ, nilA, asgn, nz, RechL, ReY, isNew, stepO, XPost, postN, XOk, updN, updU, isEff, avalue, aeff, ASt.eval, ASt.put, ASt.set, ASt.new, Nat.reduceDiv, Nat.reduceAdd, Int.reduceToNat, absV, absC, scalar, alen, acap, conc, flats, live, blkOf, aload, rd, part?, afieldAddr, afield, aindexAddr, cellsOf, afill, places, abuild, optI, asliceV, asliceS, szOk, srcCells, aappend, acopy, aclear, astore, amakeSlice, abuildSlice, snapL, mapO, treeL, AVal.tree, AVal.flatT, isFlat, ares, isFz, afroz, afrozB, lookupA, lookupH, tops, if_true, if_false, reduceCtorEq, forall_const, ite_true, ite_false, implies_true, walkS, tabS, Try.results123, eq_false h1, eq_false hN]
abbrev fnP (D A : List (List Int)) (l L : List Int) (nd : Int) (fu : Bool) : AVal := .iptr [proP D A, ints l, .lst [] 0, .lst (mapC AVal.i L) L.length, .i nd, .i 300, .b fu] 0
theorem den_fits {D A : List (List Int)} (h : QrD D A) (l L : List Int) (nd : Int) (fu : Bool) (c : Int) (hL : L.length < D.length) : Den Try.prog 106 [fnP D A l L nd fu, .i c] (.b (fitV A L c)) := by
  have h25 := h.few
  have hlA := h.len
  have mA : L.length < A.length := by omega
  have hr := h.row _ (List.getElem_mem mA)
  refine den_of_awp Try.func106 rfl (by kernel_rfl) (Nat.le_of_ble_eq_true rfl) (by simp only [treeL, AVal.tree, treeL_i, treeL_ints, treeL_u8, treeL_append, Bool.and_self, Bool.and_true, Bool.true_and]) (by first | rfl | simp only [treeL, AVal.tree, treeL_i, treeL_ints, treeL_u8, treeL_append, Bool.and_self, Bool.and_true, Bool.true_and]) mixed (by kernel_rfl) fun hl => ?_
  simp only [lensL, lens, lensL_i, lensL_mapC, maxI, and_true, true_and] at hl
  rw [Try.ntmps106]
  refine ex_start ?_
  simp (config := { maxSteps := 1000000 }) +decide only [NoH, Old, OldL, nilQ, nilA, asgn, nz, RechL, ReY, isNew, stepO, XPost, postN, XOk, updN, updU, isEff, avalue, aeff, ASt.eval, ASt.put, ASt.set, ASt.new, Nat.reduceDiv, Nat.reduceAdd, Int.reduceToNat, absV, absC, scalar, alen, acap, conc, flats, live, blkOf, aload, rd, part?, afieldAddr, afield, aindexAddr, cellsOf, afill, places, abuild, optI, asliceV, asliceS, szOk, srcCells, aappend, acopy, aclear, astore, amakeSlice, abuildSlice, snapL, mapO, treeL, AVal.tree, AVal.flatT, isFlat, ares, isFz, afroz, afrozB, lookupA, lookupH, tops, if_true, if_false, reduceCtorEq, forall_const, ite_true, ite_false, implies_true, walkS, tabS, Try.results106]
  refine ex_loop (fun k : {k : Nat // k ≤ L.length ∧ ∀ i : Nat, i < k → ¬ nr c (L.getD i 0) (ap A L.length i)} => mk [(0, fnP D A l L nd fu), (1, .i c), (5, .i L.length), (6, .i k.1)] [] 0 39) (fun k => L.length - k.1) ⟨0, Nat.zero_le _, fun i h => by omega⟩ ?_ ?_
  · refine weak_mk rfl (by first | exact Nat.le_refl _ | (simp only [mk_gen]; omega)) ?_ ?_ <;> simp +decide only [w_lookup_nil, w_lookup_cons, ch_ch, ch_lit, lit_ch, wkT, wkH, wkB, WVL, WV_refl', Int.natCast_zero, Int.natCast_add, Int.natCast_one, Nat.sub_self, Nat.sub_zero, List.replicate_zero, List.take_zero, List.nil_append, List.append_nil, fillC_zero, Nat.reduceDiv, Nat.reduceAdd, upd_bk, bk_at, getB_zero, getB_succ, modB_zero, modB_succ, rows_lit, repB_zero, repB_succ, List.length_cons, List.length_nil, upd_upd_same, upd_apply, mk_tmp, mk_heap, mk_gen, lookupA, lookupH, List.getD_cons_zero, List.getD_cons_succ, init_two, tops, Bool.true_and, and_self, and_true, true_and, true_or, if_true, if_false, ite_true, ite_false, reduceCtorEq, reduceIte]
  rintro ⟨k, hk, hI⟩
  have hk' : k ≤ L.length := hk
  have hI' : ∀ i : Nat, i < k → ¬ nr c (L.getD i 0) (ap A L.length i) := hI
  by_cases hlt : k < L.length
  case neg =>
    have hltI : ¬ (k : Int) < (L.length : Int) := by omega
    have yes : fitV A L c = true := by
      unfold fitV
      rw [bp_true]
      exact fun i hi => hI' i (by omega)
    simp (config := { maxSteps := 1000000 }) +decide only [NoH, Old, OldL, nilQ, nilA, asgn, nz, RechL, ReY, isNew, stepO, XPost, postN, XOk, updN, updU, isEff, avalue, aeff, ASt.eval, ASt.put, ASt.set, ASt.new, Nat.reduceDiv, Nat.reduceAdd, Int.reduceToNat, absV, absC, scalar, alen, acap, conc, flats, live, blkOf, aload, rd, part?, afieldAddr, afield, aindexAddr, cellsOf, afill, places, abuild, optI, asliceV, asliceS, szOk, srcCells, aappend, acopy, aclear, astore, amakeSlice, abuildSlice, snapL, mapO, treeL, AVal.tree, AVal.flatT, isFlat, ares, isFz, afroz, afrozB, lookupA, lookupH, tops, if_true, if_false, reduceCtorEq, forall_const, ite_true, ite_false, implies_true, walkS, tabS, Try.results106, eq_false hltI, yes]
  have hltI : (k : Int) < (L.length : Int) := by omega
  have hw : IntKind.i64.wrap ((k : Int) + 1) = ((k + 1 : Nat) : Int) := wrap64 (by omega) (by omega)
  have mAI : (L.length : Int) < (A.length : Int) := by omega
  have kr : k < A[L.length].length := by omega
  have krI : (k : Int) < (A[L.length].length : Int) := by omega
  have eg : L.getD k 0 = L[k] := by rw [List.getD_eq_getElem?_getD, List.getElem?_eq_getElem hlt, Option.getD_some]
  have eap : ap A (L.length : Int) (k : Int) = A[L.length][k] := by
    unfold ap
    rw [Int.toNat_natCast, Int.toNat_natCast]
    exact gdd mA kr
  simp (config := { maxSteps := 1000000 }) +decide only [NoH, Old, OldL, nilQ, nilA, asgn, nz, RechL, ReY, isNew, stepO, XPost, postN, XOk, updN, updU, isEff, avalue, aeff, ASt.eval, ASt.put, ASt.set, ASt.new, Nat.reduceDiv, Nat.reduceAdd, Int.reduceToNat, absV, absC, scalar, alen, acap, conc, flats, live, blkOf, aload, rd, part?, afieldAddr, afield, aindexAddr, cellsOf, afill, places, abuild, optI, asliceV, asliceS, szOk, srcCells, aappend, acopy, aclear, astore, amakeSlice, abuildSlice, snapL, mapO, treeL, AVal.tree, AVal.flatT, isFlat, ares, isFz, afroz, afrozB, lookupA, lookupH, tops, if_true, if_false, reduceCtorEq, forall_const, ite_true, ite_false, implies_true, walkS, tabS, Try.results106, eq_true hltI, hlt, mA, mAI, kr, krI]
  refine callK (den_l19Near c L[k] A[L.length][k]) (by first | exact .inl rfl | exact .inr rfl) ?_
  by_cases hn : nr c L[k] A[L.length][k]
  · have no : fitV A L c = false := by
      unfold fitV
      rw [bp_false]
      intro hh
      have := hh k hlt
      rw [eg, eap] at this
      exact this hn
    simp (config := { maxSteps := 1000000 }) +decide only [NoH, Old, OldL, nilQ, nilA, asgn, nz, RechL, ReY, isNew, stepO, XPost, postN, XOk, updN, updU, isEff, avalue, aeff, ASt.eval, ASt.put, ASt.set, ASt.new, Nat.reduceDiv, Nat.reduceAdd, Int.reduceToNat, absV, absC, scalar, alen, acap, conc, flats, live, blkOf, aload, rd, part?, afieldAddr, afield, aindexAddr, cellsOf, afill, places, abuild, optI, asliceV, asliceS, szOk, srcCells, aappend, acopy, aclear, astore, amakeSlice, abuildSlice, snapL, mapO, treeL, AVal.tree, AVal.flatT, isFlat, ares, isFz, afroz, afrozB, lookupA, lookupH, tops, if_true, if_false, reduceCtorEq, forall_const, ite_true, ite_false, implies_true, walkS, tabS, Try.results106, eq_true hn, no]
  · simp (config := { maxSteps := 1000000 }) +decide only [NoH, Old, OldL, nilQ, nilA, asgn, nz, RechL, ReY, isNew, stepO, XPost, postN, XOk, updN, updU, isEff, avalue, aeff, ASt.eval, ASt.put, ASt.set, ASt.new, Nat.reduceDiv, Nat.reduceAdd, Int.reduceToNat, absV, absC, scalar, alen, acap, conc, flats, live, blkOf, aload, rd, part?, afieldAddr, afield, aindexAddr, cellsOf, afill, places, abuild, optI, asliceV, asliceS, szOk, srcCells, aappend, acopy, aclear, astore, amakeSlice, abuildSlice, snapL, mapO, treeL, AVal.tree, AVal.flatT, isFlat, ares, isFz, afroz, afrozB, lookupA, lookupH, tops, if_true, if_false, reduceCtorEq, forall_const, ite_true, ite_false, implies_true, walkS, tabS, Try.results106, eq_false hn, hw]
    refine ⟨⟨k + 1, hlt, fun i hi => ?_⟩, ?_, by show L.length - (k + 1) < L.length - k; omega⟩
    · by_cases e : i = k
      · subst e
        rw [eg, eap]
        exact hn
      · exact hI' i (by omega)
    refine weak_mk rfl (by first | exact Nat.le_refl _ | (simp only [mk_gen]; omega)) ?_ ?_ <;> simp +decide only [w_lookup_nil, w_lookup_cons, ch_ch, ch_lit, lit_ch, wkT, wkH, wkB, WVL, WV_refl', Int.natCast_zero, Int.natCast_add, Int.natCast_one, Nat.sub_self, Nat.sub_zero, List.replicate_zero, List.take_zero, List.nil_append, List.append_nil, fillC_zero, Nat.reduceDiv, Nat.reduceAdd, upd_bk, bk_at, getB_zero, getB_succ, modB_zero, modB_succ, rows_lit, repB_zero, repB_succ, List.length_cons, List.length_nil, upd_upd_same, upd_apply, mk_tmp, mk_heap, mk_gen, lookupA, lookupH, List.getD_cons_zero, List.getD_cons_succ, init_two, tops, Bool.true_and, and_self, and_true, true_and, true_or, if_true, if_false, ite_true, ite_false, reduceCtorEq, reduceIte]
abbrev fnT (D A : List (List Int)) (l : List Int) (st : FSt) : XT := .op [.v (proP D A), .v (ints l), .v (.lst [] 0), xints st.1, xi st.2.1, xi 300, xb st.2.2]
theorem denx_try {D A : List (List Int)} (h : QrD D A) (l : List Int) (hl : l.length = D.length) (f : Nat) (left : Int)
    (ih : ∀ st : FSt, st.1.length + f = l.length → FIn st → DenX Try.prog 67 [fnT D A l st, xi left] [fnT D A l (runF D A l f left st).1, xi left] (xb (runF D A l f left st).2))
    (c : Int) (st : FSt) (hs : FIn st) (hm : st.1.length + (f + 1) = l.length) : DenX Try.prog 91 [fnT D A l st, xi c, xi left] [fnT D A l (tryF (runF D A l f left) A c st).1, xi c, xi left] (xb (tryF (runF D A l f left) A c st).2) := by
  obtain ⟨L, nd, fu⟩ := st
  have hs1 : 0 ≤ nd := hs.1
  have hs2 : nd ≤ 300 := hs.2
  have hm' : L.length + (f + 1) = l.length := hm
  have h25 := h.few
  have tL : List.take L.length L = L := List.take_length
  have t0 : treeL [proP D A] = true := by simp only [treeL, AVal.tree, treeL_ints, treeL_i, Bool.and_self]
  have dF := den_fits h l L nd fu c (by omega)
  have hru := runF_ok D A l l.length f left (L ++ [c], nd + 1, false)
  have hx := ih (L ++ [c], nd + 1, false) (by simp; omega)
  unfold tryF
  by_cases c1 : fitV A L c = true
  case neg =>
    have c1' : fitV A L c = false := by simpa using c1
    rw [if_pos (show fitV A (L, nd, fu).1 c = false from c1')]
    refine denx_of_awp Try.func91 rfl (by kernel_rfl) (Nat.le_of_ble_eq_true rfl) (by simp +decide only [w_embA_nil, w_embA_cons, w_emb_v, w_emb_ol, w_emb_op, w_emb_agg, w_emb_tup, w_embL_nil, w_embL_cons, embL_i, List.map_cons, List.map_nil, List.nil_append, List.append_nil, List.cons_append, List.nodup_cons, List.nodup_nil, List.mem_cons, List.mem_nil_iff, List.not_mem_nil, ch_ch, ch_lit, lit_ch, Nat.reduceAdd]) mixed (by kernel_rfl) fun hl => ?_
    simp only [xlensL, xlens, lensL, lens, lensL_i, lensL_mapC, xlensL_i, maxI, and_true, true_and] at hl
    rw [Try.ntmps91]
    refine ex_start ?_
    simp (config := { maxSteps := 1000000 }) +decide only [NoH, Old, OldL, nilQ, nilA, asgn, nz, RechL, ReY, isNew, stepO, XPost, postN, XOk, updN, updU, isEff, avalue, aeff, ASt.eval, ASt.put, ASt.set, ASt.new, Nat.reduceDiv, Nat.reduceAdd, Int.reduceToNat, absV, absC, scalar, alen, acap, conc, flats, live, blkOf, aload, rd, part?, afieldAddr, afield, aindexAddr, cellsOf, afill, places, abuild, optI, asliceV, asliceS, szOk, srcCells, aappend, acopy, aclear, astore, amakeSlice, abuildSlice, snapL, mapO, treeL, AVal.tree, AVal.flatT, isFlat, ares, isFz, afroz, afrozB, lookupA, lookupH, tops, if_true, if_false, reduceCtorEq, forall_const, ite_true, ite_false, implies_true, walkS, tabS, Try.results91, tL, treeL_i, treeL_ints]
    refine callK (dF) (by first | exact .inl rfl | exact .inr rfl) ?_
    simp (config := { maxSteps := 1000000 }) +decide only [NoH, Old, OldL, nilQ, nilA, asgn, nz, RechL, ReY, isNew, stepO, XPost, postN, XOk, updN, updU, isEff, avalue, aeff, ASt.eval, ASt.put, ASt.set, ASt.new, Nat.reduceDiv, Nat.reduceAdd, Int.reduceToNat, absV, absC, scalar, alen, acap, conc, flats, live, blkOf, aload, rd, part?, afieldAddr, afield, aindexAddr, cellsOf, afill, places, abuild, optI, asliceV, asliceS, szOk, srcCells, aappend, acopy, aclear, astore, amakeSlice, abuildSlice, snapL, mapO, treeL, AVal.tree, AVal.flatT, isFlat, ares, isFz, afroz, afrozB, lookupA, lookupH, tops, if_true, if_false, reduceCtorEq, forall_const, ite_true, ite_false, implies_true, walkS, tabS, Try.results91, c1', tL, treeL_i, treeL_ints]
  rw [if_neg (show ¬ fitV A (L, nd, fu).1 c = false by rw [show fitV A (L, nd, fu).1 c = true from c1]; simp)]
  show DenX _ _ [fnT D A l (L, nd, fu), xi c, xi left]
    [fnT D A l (if (fu || decide (nd = 300)) = true then ((L, nd, true), false) else if (runF D A l f left (L ++ [c], nd + 1, false)).2 = true then ((runF D A l f left (L ++ [c], nd + 1, false)).1, true) else ((L, (runF D A l f left (L ++ [c], nd + 1, false)).1.2), false)).1, xi c, xi left]
    (xb (if (fu || decide (nd = 300)) = true then ((L, nd, true), false) else if (runF D A l f left (L ++ [c], nd + 1, false)).2 = true then ((runF D A l f left (L ++ [c], nd + 1, false)).1, true) else ((L, (runF D A l f left (L ++ [c], nd + 1, false)).1.2), false)).2)
  by_cases c2 : nd = 300
  · subst c2
    rw [if_pos (by simp)]
    refine denx_of_awp Try.func91 rfl (by kernel_rfl) (Nat.le_of_ble_eq_true rfl) (by simp +decide only [w_embA_nil, w_embA_cons, w_emb_v, w_emb_ol, w_emb_op, w_emb_agg, w_emb_tup, w_embL_nil, w_embL_cons, embL_i, List.map_cons, List.map_nil, List.nil_append, List.append_nil, List.cons_append, List.nodup_cons, List.nodup_nil, List.mem_cons, List.mem_nil_iff, List.not_mem_nil, ch_ch, ch_lit, lit_ch, Nat.reduceAdd]) mixed (by kernel_rfl) fun hl => ?_
    simp only [xlensL, xlens, lensL, lens, lensL_i, lensL_mapC, xlensL_i, maxI, and_true, true_and] at hl
    rw [Try.ntmps91]
    refine ex_start ?_
    simp (config := { maxSteps := 1000000 }) +decide only [NoH, Old, OldL, nilQ, nilA, asgn, nz, RechL, ReY, isNew, stepO, XPost, postN, XOk, updN, updU, isEff, avalue, aeff, ASt.eval, ASt.put, ASt.set, ASt.new, Nat.reduceDiv, Nat.reduceAdd, Int.reduceToNat, absV, absC, scalar, alen, acap, conc, flats, live, blkOf, aload, rd, part?, afieldAddr, afield, aindexAddr, cellsOf, afill, places, abuild, optI, asliceV, asliceS, szOk, srcCells, aappend, acopy, aclear, astore, amakeSlice, abuildSlice, snapL, mapO, treeL, AVal.tree, AVal.flatT, isFlat, ares, isFz, afroz, afrozB, lookupA, lookupH, tops, if_true, if_false, reduceCtorEq, forall_const, ite_true, ite_false, implies_true, walkS, tabS, Try.results91, tL, treeL_i, treeL_ints]
    refine callK (dF) (by first | exact .inl rfl | exact .inr rfl) ?_
    simp (config := { maxSteps := 1000000 }) +decide only [NoH, Old, OldL, nilQ, nilA, asgn, nz, RechL, ReY, isNew, stepO, XPost, postN, XOk, updN, updU, isEff, avalue, aeff, ASt.eval, ASt.put, ASt.set, ASt.new, Nat.reduceDiv, Nat.reduceAdd, Int.reduceToNat, absV, absC, scalar, alen, acap, conc, flats, live, blkOf, aload, rd, part?, afieldAddr, afield, aindexAddr, cellsOf, afill, places, abuild, optI, asliceV, asliceS, szOk, srcCells, aappend, acopy, aclear, astore, amakeSlice, abuildSlice, snapL, mapO, treeL, AVal.tree, AVal.flatT, isFlat, ares, isFz, afroz, afrozB, lookupA, lookupH, tops, if_true, if_false, reduceCtorEq, forall_const, ite_true, ite_false, implies_true, walkS, tabS, Try.results91, c1, tL, treeL_i, treeL_ints]
  cases fu
  case true =>
    rw [if_pos (by simp)]
    refine denx_of_awp Try.func91 rfl (by kernel_rfl) (Nat.le_of_ble_eq_true rfl) (by simp +decide only [w_embA_nil, w_embA_cons, w_emb_v, w_emb_ol, w_emb_op, w_emb_agg, w_emb_tup, w_embL_nil, w_embL_cons, embL_i, List.map_cons, List.map_nil, List.nil_append, List.append_nil, List.cons_append, List.nodup_cons, List.nodup_nil, List.mem_cons, List.mem_nil_iff, List.not_mem_nil, ch_ch, ch_lit, lit_ch, Nat.reduceAdd]) mixed (by kernel_rfl) fun hl => ?_
    simp only [xlensL, xlens, lensL, lens, lensL_i, lensL_mapC, xlensL_i, maxI, and_true, true_and] at hl
    rw [Try.ntmps91]
    refine ex_start ?_
    simp (config := { maxSteps := 1000000 }) +decide only [NoH, Old, OldL, nilQ, nilA, asgn, nz, RechL, ReY, isNew, stepO, XPost, postN, XOk, updN, updU, isEff, avalue, aeff, ASt.eval, ASt.put, ASt.set, ASt.new, Nat.reduceDiv, Nat.reduceAdd, Int.reduceToNat, absV, absC, scalar, alen, acap, conc, flats, live, blkOf, aload, rd, part?, afieldAddr, afield, aindexAddr, cellsOf, afill, places, abuild, optI, asliceV, asliceS, szOk, srcCells, aappend, acopy, aclear, astore, amakeSlice, abuildSlice, snapL, mapO, treeL, AVal.tree, AVal.flatT, isFlat, ares, isFz, afroz, afrozB, lookupA, lookupH, tops, if_true, if_false, reduceCtorEq, forall_const, ite_true, ite_false, implies_true, walkS, tabS, Try.results91, tL, treeL_i, treeL_ints]
    refine callK (dF) (by first | exact .inl rfl | exact .inr rfl) ?_
    simp (config := { maxSteps := 1000000 }) +decide only [NoH, Old, OldL, nilQ, nilA, asgn, nz, RechL, ReY, isNew, stepO, XPost, postN, XOk, updN, updU, isEff, avalue, aeff, ASt.eval, ASt.put, ASt.set, ASt.new, Nat.reduceDiv, Nat.reduceAdd, Int.reduceToNat, absV, absC, scalar, alen, acap, conc, flats, live, blkOf, aload, rd, part?, afieldAddr, afield, aindexAddr, cellsOf, afill, places, abuild, optI, asliceV, asliceS, szOk, srcCells, aappend, acopy, aclear, astore, amakeSlice, abuildSlice, snapL, mapO, treeL, AVal.tree, AVal.flatT, isFlat, ares, isFz, afroz, afrozB, lookupA, lookupH, tops, if_true, if_false, reduceCtorEq, forall_const, ite_true, ite_false, implies_true, walkS, tabS, Try.results91, c1, eq_false c2, tL, treeL_i, treeL_ints]
  rw [if_neg (by simp [c2])]
  have hx' := hx ⟨by show 0 ≤ nd + 1; omega, by show nd + 1 ≤ 300; omega⟩
  have hru' := hru (by simp; omega) ⟨by show 0 ≤ nd + 1; omega, by show nd + 1 ≤ 300; omega⟩
  rcases hr : runF D A l f left (L ++ [c], nd + 1, false) with ⟨⟨L2, nd2, fu2⟩, ok⟩
  rw [hr] at hx' hru'
  have w1 : IntKind.i64.wrap (nd + 1) = nd + 1 := wrap64 (by omega) (by omega)
  have h8 : (L.length + 1) * 8 ≤ 140737488355328 := by omega
  have hlc : (L ++ [c]).length = L.length + 1 := by simp
  have tLc : List.take (L.length + 1) (L ++ [c]) = L ++ [c] := List.take_of_length_le (by omega)
  have tLl : List.take L.length (L ++ [c]) = L := by rw [List.take_append_of_le_length (Nat.le_refl _), List.take_length]
  have tL2 : List.take L2.length L2 = L2 := List.take_length
  have hlt1 : L.length < L.length + 1 := by omega
  simp only [fnT, xints, hlc] at hx'
  cases ok
  case true =>
    show DenX _ _ [fnT D A l (L, nd, false), xi c, xi left] [fnT D A l (L2, nd2, fu2), xi c, xi left] (xb true)
    refine denx_of_awp Try.func91 rfl (by kernel_rfl) (Nat.le_of_ble_eq_true rfl) (by simp +decide only [w_embA_nil, w_embA_cons, w_emb_v, w_emb_ol, w_emb_op, w_emb_agg, w_emb_tup, w_embL_nil, w_embL_cons, embL_i, List.map_cons, List.map_nil, List.nil_append, List.append_nil, List.cons_append, List.nodup_cons, List.nodup_nil, List.mem_cons, List.mem_nil_iff, List.not_mem_nil, ch_ch, ch_lit, lit_ch, Nat.reduceAdd]) mixed (by kernel_rfl) fun hl => ?_
    simp only [xlensL, xlens, lensL, lens, lensL_i, lensL_mapC, xlensL_i, maxI, and_true, true_and] at hl
    rw [Try.ntmps91]
    refine ex_start ?_
    simp (config := { maxSteps := 1000000 }) +decide only [NoH, Old, OldL, nilQ, nilA, asgn, nz, RechL, ReY, isNew, stepO, XPost, postN, XOk, updN, updU, isEff, avalue, aeff, ASt.eval, ASt.put, ASt.set, ASt.new, Nat.reduceDiv, Nat.reduceAdd, Int.reduceToNat, absV, absC, scalar, alen, acap, conc, flats, live, blkOf, aload, rd, part?, afieldAddr, afield, aindexAddr, cellsOf, afill, places, abuild, optI, asliceV, asliceS, szOk, srcCells, aappend, acopy, aclear, astore, amakeSlice, abuildSlice, snapL, mapO, treeL, AVal.tree, AVal.flatT, isFlat, ares, isFz, afroz, afrozB, lookupA, lookupH, tops, if_true, if_false, reduceCtorEq, forall_const, ite_true, ite_false, implies_true, walkS, tabS, Try.results91, tL, treeL_i, treeL_ints]
    refine callK (dF) (by first | exact .inl rfl | exact .inr rfl) ?_
    simp (config := { maxSteps := 1000000 }) +decide only [NoH, Old, OldL, nilQ, nilA, asgn, nz, RechL, ReY, isNew, stepO, XPost, postN, XOk, updN, updU, isEff, avalue, aeff, ASt.eval, ASt.put, ASt.set, ASt.new, Nat.reduceDiv, Nat.reduceAdd, Int.reduceToNat, absV, absC, scalar, alen, acap, conc, flats, live, blkOf, aload, rd, part?, afieldAddr, afield, aindexAddr, cellsOf, afill, places, abuild, optI, asliceV, asliceS, szOk, srcCells, aappend, acopy, aclear, astore, amakeSlice, abuildSlice, snapL, mapO, treeL, AVal.tree, AVal.flatT, isFlat, ares, isFz, afroz, afrozB, lookupA, lookupH, tops, if_true, if_false, reduceCtorEq, forall_const, ite_true, ite_false, implies_true, walkS, tabS, Try.results91, c1, eq_false c2, w1, tL, h8, hlc, tLc, Nat.le_add_right, treeL_i, treeL_ints, List.replicate_succ, List.flatten_cons, List.flatten_nil, mapC_snoc]
    refine callX (hx') (by simp (config := { maxSteps := 1000000 }) +decide only [NoH, Old, OldL, nilQ, nilA, asgn, nz, RechL, ReY, isNew, stepO, XPost, postN, XOk, updN, updU, isEff, avalue, aeff, ASt.eval, ASt.put, ASt.set, ASt.new, Nat.reduceDiv, Nat.reduceAdd, Int.reduceToNat, absV, absC, scalar, alen, acap, conc, flats, live, blkOf, aload, rd, part?, afieldAddr, afield, aindexAddr, cellsOf, afill, places, abuild, optI, asliceV, asliceS, szOk, srcCells, aappend, acopy, aclear, astore, amakeSlice, abuildSlice, snapL, mapO, treeL, AVal.tree, AVal.flatT, isFlat, ares, isFz, afroz, afrozB, lookupA, lookupH, tops, if_true, if_false, reduceCtorEq, forall_const, ite_true, ite_false, implies_true, walkS, tabS, Try.results91, tL, hlc, tLc, hlt1, treeL_i, treeL_ints]) ?_
    simp (config := { maxSteps := 1000000 }) +decide only [NoH, Old, OldL, nilQ, nilA, asgn, nz, RechL, ReY, isNew, stepO, XPost, postN, XOk, updN, updU, isEff, avalue, aeff, ASt.eval, ASt.put, ASt.set, ASt.new, Nat.reduceDiv, Nat.reduceAdd, Int.reduceToNat, absV, absC, scalar, alen, acap, conc, flats, live, blkOf, aload, rd, part?, afieldAddr, afield, aindexAddr, cellsOf, afill, places, abuild, optI, asliceV, asliceS, szOk, srcCells, aappend, acopy, aclear, astore, amakeSlice, abuildSlice, snapL, mapO, treeL, AVal.tree, AVal.flatT, isFlat, ares, isFz, afroz, afrozB, lookupA, lookupH, tops, if_true, if_false, reduceCtorEq, forall_const, ite_true, ite_false, implies_true, walkS, tabS, Try.results91, tL2, treeL_i, treeL_ints]
  case false =>
    have e2 : L2 = L ++ [c] := hru'.no rfl
    subst e2
    show DenX _ _ [fnT D A l (L, nd, false), xi c, xi left] [fnT D A l (L, nd2, fu2), xi c, xi left] (xb false)
    simp only [hlc] at hx'
    refine denx_of_awp Try.func91 rfl (by kernel_rfl) (Nat.le_of_ble_eq_true rfl) (by simp +decide only [w_embA_nil, w_embA_cons, w_emb_v, w_emb_ol, w_emb_op, w_emb_agg, w_emb_tup, w_embL_nil, w_embL_cons, embL_i, List.map_cons, List.map_nil, List.nil_append, List.append_nil, List.cons_append, List.nodup_cons, List.nodup_nil, List.mem_cons, List.mem_nil_iff, List.not_mem_nil, ch_ch, ch_lit, lit_ch, Nat.reduceAdd]) mixed (by kernel_rfl) fun hl => ?_
    simp only [xlensL, xlens, lensL, lens, lensL_i, lensL_mapC, xlensL_i, maxI, and_true, true_and] at hl
    rw [Try.ntmps91]
    refine ex_start ?_
    simp (config := { maxSteps := 1000000 }) +decide only [NoH, Old, OldL, nilQ, nilA, asgn, nz, RechL, ReY, isNew, stepO, XPost, postN, XOk, updN, updU, isEff, avalue, aeff, ASt.eval, ASt.put, ASt.set, ASt.new, Nat.reduceDiv, Nat.reduceAdd, Int.reduceToNat, absV, absC, scalar, alen, acap, conc, flats, live, blkOf, aload, rd, part?, afieldAddr, afield, aindexAddr, cellsOf, afill, places, abuild, optI, asliceV, asliceS, szOk, srcCells, aappend, acopy, aclear, astore, amakeSlice, abuildSlice, snapL, mapO, treeL, AVal.tree, AVal.flatT, isFlat, ares, isFz, afroz, afrozB, lookupA, lookupH, tops, if_true, if_false, reduceCtorEq, forall_const, ite_true, ite_false, implies_true, walkS, tabS, Try.results91, tL, treeL_i, treeL_ints]
    refine callK (dF) (by first | exact .inl rfl | exact .inr rfl) ?_
    simp (config := { maxSteps := 1000000 }) +decide only [NoH, Old, OldL, nilQ, nilA, asgn, nz, RechL, ReY, isNew, stepO, XPost, postN, XOk, updN, updU, isEff, avalue, aeff, ASt.eval, ASt.put, ASt.set, ASt.new, Nat.reduceDiv, Nat.reduceAdd, Int.reduceToNat, absV, absC, scalar, alen, acap, conc, flats, live, blkOf, aload, rd, part?, afieldAddr, afield, aindexAddr, cellsOf, afill, places, abuild, optI, asliceV, asliceS, szOk, srcCells, aappend, acopy, aclear, astore, amakeSlice, abuildSlice, snapL, mapO, treeL, AVal.tree, AVal.flatT, isFlat, ares, isFz, afroz, afrozB, lookupA, lookupH, tops, if_true, if_false, reduceCtorEq, forall_const, ite_true, ite_false, implies_true, walkS, tabS, Try.results91, c1, eq_false c2, w1, tL, h8, hlc, tLc, Nat.le_add_right, treeL_i, treeL_ints, List.replicate_succ, List.flatten_cons, List.flatten_nil, mapC_snoc]
    refine callX (hx') (by simp (config := { maxSteps := 1000000 }) +decide only [NoH, Old, OldL, nilQ, nilA, asgn, nz, RechL, ReY, isNew, stepO, XPost, postN, XOk, updN, updU, isEff, avalue, aeff, ASt.eval, ASt.put, ASt.set, ASt.new, Nat.reduceDiv, Nat.reduceAdd, Int.reduceToNat, absV, absC, scalar, alen, acap, conc, flats, live, blkOf, aload, rd, part?, afieldAddr, afield, aindexAddr, cellsOf, afill, places, abuild, optI, asliceV, asliceS, szOk, srcCells, aappend, acopy, aclear, astore, amakeSlice, abuildSlice, snapL, mapO, treeL, AVal.tree, AVal.flatT, isFlat, ares, isFz, afroz, afrozB, lookupA, lookupH, tops, if_true, if_false, reduceCtorEq, forall_const, ite_true, ite_false, implies_true, walkS, tabS, Try.results91, tL, hlc, tLc, hlt1, treeL_i, treeL_ints]) ?_
    simp (config := { maxSteps := 1000000 }) +decide only [NoH, Old, OldL, nilQ, nilA, asgn, nz, RechL, ReY, isNew, stepO, XPost, postN, XOk, updN, updU, isEff, avalue, aeff, ASt.eval, ASt.put, ASt.set, ASt.new, Nat.reduceDiv, Nat.reduceAdd, Int.reduceToNat, absV, absC, scalar, alen, acap, conc, flats, live, blkOf, aload, rd, part?, afieldAddr, afield, aindexAddr, cellsOf, afill, places, abuild, optI, asliceV, asliceS, szOk, srcCells, aappend, acopy, aclear, astore, amakeSlice, abuildSlice, snapL, mapO, treeL, AVal.tree, AVal.flatT, isFlat, ares, isFz, afroz, afrozB, lookupA, lookupH, tops, if_true, if_false, reduceCtorEq, forall_const, ite_true, ite_false, implies_true, walkS, tabS, Try.results91, tL, tLc, tLl, hlc, Nat.zero_le, Nat.le_add_right, treeL_i, treeL_ints]
theorem denx_run {D A : List (List Int)} (h : QrD D A) (l : List Int) (hll : l.length = D.length) : ∀ (f : Nat) (left : Int) (st : FSt), 0 ≤ left → left ≤ 100 → st.1.length + f = l.length → FIn st → DenX Try.prog 67 [fnT D A l st, xi left] [fnT D A l (runF D A l f left st).1, xi left] (xb (runF D A l f left st).2) := by
  have h25 := h.few
  have t0 : treeL [proP D A] = true := by simp only [treeL, AVal.tree, treeL_ints, treeL_i, Bool.and_self]
  intro f
  induction f with
  | zero =>
    rintro left ⟨L, nd, fu⟩ hl0 hl1 hm hs
    have hm' : L.length = l.length := hm
    have hmI : (L.length : Int) = (l.length : Int) := by omega
    have tL : List.take L.length L = L := List.take_length
    show DenX _ _ [fnT D A l (L, nd, fu), xi left] [fnT D A l (L, nd, fu), xi left] (xb true)
    refine denx_of_awp Try.func67 rfl (by kernel_rfl) (Nat.le_of_ble_eq_true rfl) (by simp +decide only [w_embA_nil, w_embA_cons, w_emb_v, w_emb_ol, w_emb_op, w_emb_agg, w_emb_tup, w_embL_nil, w_embL_cons, embL_i, List.map_cons, List.map_nil, List.nil_append, List.append_nil, List.cons_append, List.nodup_cons, List.nodup_nil, List.mem_cons, List.mem_nil_iff, List.not_mem_nil, ch_ch, ch_lit, lit_ch, Nat.reduceAdd]) mixed (by kernel_rfl) fun hl => ?_
    simp only [xlensL, xlens, lensL, lens, lensL_i, lensL_mapC, xlensL_i, maxI, and_true, true_and] at hl
    rw [Try.ntmps67]
    refine ex_start ?_
    simp (config := { maxSteps := 1000000 }) +decide only [NoH, Old, OldL, nilQ, nilA, asgn, nz, RechL, ReY, isNew, stepO, XPost, postN, XOk, updN, updU, isEff, avalue, aeff, ASt.eval, ASt.put, ASt.set, ASt.new, Nat.reduceDiv, Nat.reduceAdd, Int.reduceToNat, absV, absC, scalar, alen, acap, conc, flats, live, blkOf, aload, rd, part?, afieldAddr, afield, aindexAddr, cellsOf, afill, places, abuild, optI, asliceV, asliceS, szOk, srcCells, aappend, acopy, aclear, astore, amakeSlice, abuildSlice, snapL, mapO, treeL, AVal.tree, AVal.flatT, isFlat, ares, isFz, afroz, afrozB, lookupA, lookupH, tops, if_true, if_false, reduceCtorEq, forall_const, ite_true, ite_false, implies_true, walkS, tabS, Try.results67, tL, eq_true hmI, treeL_i, treeL_ints]
  | succ f ih =>
    rintro left ⟨L, nd, fu⟩ hl0 hl1 hm hs
    have hm' : L.length + (f + 1) = l.length := hm
    have mD : L.length < D.length := by omega
    have ml : L.length < l.length := by omega
    have mDI : (L.length : Int) < (D.length : Int) := by omega
    have mlI : (L.length : Int) < (l.length : Int) := by omega
    have hmI : ¬ (L.length : Int) = (l.length : Int) := by omega
    have tL : List.take L.length L = L := List.take_length
    have eD : D.getD L.length [] = D[L.length] := by rw [List.getD_eq_getElem?_getD, List.getElem?_eq_getElem mD, Option.getD_some]
    have el : l.getD L.length 0 = l[L.length] := by rw [List.getD_eq_getElem?_getD, List.getElem?_eq_getElem ml, Option.getD_some]
    have hdf := h.dom _ (List.getElem_mem mD)
    have hrok := fun left => runF_ok D A l l.length f left
    have tryX := fun (left : Int) (h0 : 0 ≤ left) (h1 : left ≤ 100) (c : Int) (nd : Int) (fu : Bool) (hs : FIn (L, nd, fu)) => denx_try h l hll f left (fun st a b => ih left st h0 h1 a b) c (L, nd, fu) hs hm
    have tryO := fun (left : Int) (c : Int) (nd : Int) (fu : Bool) (hs : FIn (L, nd, fu)) => tryF_ok (A := A) (c := c) (run := runF D A l f left) hs hm (hrok left)
    have key : ∀ r, runF D A l (f + 1) left (L, nd, fu) = r → DenX Try.prog 67 [fnT D A l (L, nd, fu), xi left] [fnT D A l r.1, xi left] (xb r.2) := by
      rintro ⟨⟨Lr, ndr, fur⟩, okr⟩ hr
      unfold runF at hr
      simp only [eD, el] at hr
      have tLr : List.take Lr.length Lr = Lr := List.take_length
      refine denx_of_awp Try.func67 rfl (by kernel_rfl) (Nat.le_of_ble_eq_true rfl) (by simp +decide only [w_embA_nil, w_embA_cons, w_emb_v, w_emb_ol, w_emb_op, w_emb_agg, w_emb_tup, w_embL_nil, w_embL_cons, embL_i, List.map_cons, List.map_nil, List.nil_append, List.append_nil, List.cons_append, List.nodup_cons, List.nodup_nil, List.mem_cons, List.mem_nil_iff, List.not_mem_nil, ch_ch, ch_lit, lit_ch, Nat.reduceAdd]) mixed (by kernel_rfl) fun hl => ?_
      simp only [xlensL, xlens, lensL, lens, lensL_i, lensL_mapC, xlensL_i, maxI, and_true, true_and] at hl
      rw [Try.ntmps67]
      refine ex_start ?_
      simp (config := { maxSteps := 1000000 }) +decide only [NoH, Old, OldL, nilQ, nilA, asgn, nz, RechL, ReY, isNew, stepO, XPost, postN, XOk, updN, updU, isEff, avalue, aeff, ASt.eval, ASt.put, ASt.set, ASt.new, Nat.reduceDiv, Nat.reduceAdd, Int.reduceToNat, absV, absC, scalar, alen, acap, conc, flats, live, blkOf, aload, rd, part?, afieldAddr, afield, aindexAddr, cellsOf, afill, places, abuild, optI, asliceV, asliceS, szOk, srcCells, aappend, acopy, aclear, astore, amakeSlice, abuildSlice, snapL, mapO, treeL, AVal.tree, AVal.flatT, isFlat, ares, isFz, afroz, afrozB, lookupA, lookupH, tops, if_true, if_false, reduceCtorEq, forall_const, ite_true, ite_false, implies_true, walkS, tabS, Try.results67, tL, eq_false hmI, mD, mDI, ml, mlI, treeL_i, treeL_ints]
      refine callK (den_l00Has D[L.length] l[L.length]) (by first | exact .inl rfl | exact .inr rfl) ?_
      by_cases c1 : l[L.length] ∈ D[L.length]
      case' pos =>
        rw [if_pos (by rw [bp_true]; exact c1)] at hr
        have hx := tryX left hl0 hl1 l[L.length] nd fu hs
        have ho := tryO left l[L.length] nd fu hs
        rcases ht : tryF (runF D A l f left) A l[L.length] (L, nd, fu) with ⟨⟨L1, nd1, fu1⟩, ok1⟩
        rw [ht] at hx ho hr
        have tL1 : List.take L1.length L1 = L1 := List.take_length
        simp only [fnT, xints] at hx
        simp (config := { maxSteps := 1000000 }) +decide only [NoH, Old, OldL, nilQ, nilA, asgn, nz, RechL, ReY, isNew, stepO, XPost, postN, XOk, updN, updU, isEff, avalue, aeff, ASt.eval, ASt.put, ASt.set, ASt.new, Nat.reduceDiv, Nat.reduceAdd, Int.reduceToNat, absV, absC, scalar, alen, acap, conc, flats, live, blkOf, aload, rd, part?, afieldAddr, afield, aindexAddr, cellsOf, afill, places, abuild, optI, asliceV, asliceS, szOk, srcCells, aappend, acopy, aclear, astore, amakeSlice, abuildSlice, snapL, mapO, treeL, AVal.tree, AVal.flatT, isFlat, ares, isFz, afroz, afrozB, lookupA, lookupH, tops, if_true, if_false, reduceCtorEq, forall_const, ite_true, ite_false, implies_true, walkS, tabS, Try.results67, eq_true c1, tL, mD, mDI, ml, mlI, treeL_i, treeL_ints]
        refine callX (hx) (by simp (config := { maxSteps := 1000000 }) +decide only [NoH, Old, OldL, nilQ, nilA, asgn, nz, RechL, ReY, isNew, stepO, XPost, postN, XOk, updN, updU, isEff, avalue, aeff, ASt.eval, ASt.put, ASt.set, ASt.new, Nat.reduceDiv, Nat.reduceAdd, Int.reduceToNat, absV, absC, scalar, alen, acap, conc, flats, live, blkOf, aload, rd, part?, afieldAddr, afield, aindexAddr, cellsOf, afill, places, abuild, optI, asliceV, asliceS, szOk, srcCells, aappend, acopy, aclear, astore, amakeSlice, abuildSlice, snapL, mapO, treeL, AVal.tree, AVal.flatT, isFlat, ares, isFz, afroz, afrozB, lookupA, lookupH, tops, if_true, if_false, reduceCtorEq, forall_const, ite_true, ite_false, implies_true, walkS, tabS, Try.results67, tL, mD, mDI, ml, mlI, treeL_i, treeL_ints]) ?_
        cases ok1
        case true =>
          simp only [if_true] at hr
          cases hr
          simp (config := { maxSteps := 1000000 }) +decide only [NoH, Old, OldL, nilQ, nilA, asgn, nz, RechL, ReY, isNew, stepO, XPost, postN, XOk, updN, updU, isEff, avalue, aeff, ASt.eval, ASt.put, ASt.set, ASt.new, Nat.reduceDiv, Nat.reduceAdd, Int.reduceToNat, absV, absC, scalar, alen, acap, conc, flats, live, blkOf, aload, rd, part?, afieldAddr, afield, aindexAddr, cellsOf, afill, places, abuild, optI, asliceV, asliceS, szOk, srcCells, aappend, acopy, aclear, astore, amakeSlice, abuildSlice, snapL, mapO, treeL, AVal.tree, AVal.flatT, isFlat, ares, isFz, afroz, afrozB, lookupA, lookupH, tops, if_true, if_false, reduceCtorEq, forall_const, ite_true, ite_false, implies_true, walkS, tabS, Try.results67, tL1, treeL_i, treeL_ints]
        simp only [Bool.false_eq_true, if_false] at hr
        obtain ⟨g0, G0, hg0, hG0⟩ : ∃ g0 G0 : Nat, 1 = g0 ∧ 2 = G0 := ⟨_, _, rfl, rfl⟩
        have e1 : L = L1 := (ho.no rfl).symm
        have hs1 : FIn (L, nd1, fu1) := ⟨ho.lo, ho.hi⟩
        subst e1
      case' neg =>
        rw [if_neg (by rw [bp_true]; exact c1)] at hr
        simp (config := { maxSteps := 1000000 }) +decide only [NoH, Old, OldL, nilQ, nilA, asgn, nz, RechL, ReY, isNew, stepO, XPost, postN, XOk, updN, updU, isEff, avalue, aeff, ASt.eval, ASt.put, ASt.set, ASt.new, Nat.reduceDiv, Nat.reduceAdd, Int.reduceToNat, absV, absC, scalar, alen, acap, conc, flats, live, blkOf, aload, rd, part?, afieldAddr, afield, aindexAddr, cellsOf, afill, places, abuild, optI, asliceV, asliceS, szOk, srcCells, aappend, acopy, aclear, astore, amakeSlice, abuildSlice, snapL, mapO, treeL, AVal.tree, AVal.flatT, isFlat, ares, isFz, afroz, afrozB, lookupA, lookupH, tops, if_true, if_false, reduceCtorEq, forall_const, ite_true, ite_false, implies_true, walkS, tabS, Try.results67, eq_false c1, tL, mD, mDI, ml, mlI, treeL_i, treeL_ints]
        obtain ⟨g0, G0, hg0, hG0⟩ : ∃ g0 G0 : Nat, 0 = g0 ∧ 1 = G0 := ⟨_, _, rfl, rfl⟩
        obtain ⟨nd1, fu1, en, ef⟩ : ∃ (nd1 : Int) (fu1 : Bool), nd1 = nd ∧ fu1 = fu := ⟨_, _, rfl, rfl⟩
        subst en ef
        have hs1 : FIn (L, nd1, fu1) := hs
      all_goals
        have d0 : Den Try.prog 84 [.lst [] 0, .i L.length] (.b false) := by
          have := den_l00Has [] (L.length : Int)
          rwa [show bp ((L.length : Int) ∈ ([] : List Int)) = false by rw [bp_false]; simp] at this
        by_cases c0 : left = 0
        · rw [if_pos c0] at hr
          cases hr
          simp (config := { maxSteps := 1000000 }) +decide only [NoH, Old, OldL, nilQ, nilA, asgn, nz, RechL, ReY, isNew, stepO, XPost, postN, XOk, updN, updU, isEff, avalue, aeff, ASt.eval, ASt.put, ASt.set, ASt.new, Nat.reduceDiv, Nat.reduceAdd, Int.reduceToNat, absV, absC, scalar, alen, acap, conc, flats, live, blkOf, aload, rd, part?, afieldAddr, afield, aindexAddr, cellsOf, afill, places, abuild, optI, asliceV, asliceS, szOk, srcCells, aappend, acopy, aclear, astore, amakeSlice, abuildSlice, snapL, mapO, treeL, AVal.tree, AVal.flatT, isFlat, ares, isFz, afroz, afrozB, lookupA, lookupH, tops, if_true, if_false, reduceCtorEq, forall_const, ite_true, ite_false, implies_true, walkS, tabS, Try.results67, eq_true c0, tL, treeL_i, treeL_ints]
        rw [if_neg c0] at hr
        have wl : IntKind.i64.wrap (left - 1) = left - 1 := wrap64 (by omega) (by omega)
        simp (config := { maxSteps := 1000000 }) +decide only [NoH, Old, OldL, nilQ, nilA, asgn, nz, RechL, ReY, isNew, stepO, XPost, postN, XOk, updN, updU, isEff, avalue, aeff, ASt.eval, ASt.put, ASt.set, ASt.new, Nat.reduceDiv, Nat.reduceAdd, Int.reduceToNat, absV, absC, scalar, alen, acap, conc, flats, live, blkOf, aload, rd, part?, afieldAddr, afield, aindexAddr, cellsOf, afill, places, abuild, optI, asliceV, asliceS, szOk, srcCells, aappend, acopy, aclear, astore, amakeSlice, abuildSlice, snapL, mapO, treeL, AVal.tree, AVal.flatT, isFlat, ares, isFz, afroz, afrozB, lookupA, lookupH, tops, if_true, if_false, reduceCtorEq, forall_const, ite_true, ite_false, implies_true, walkS, tabS, Try.results67, eq_false c0]
        refine callK (d0) (by first | exact .inl rfl | exact .inr rfl) ?_
        simp (config := { maxSteps := 1000000 }) +decide only [NoH, Old, OldL, nilQ, nilA, asgn, nz, RechL, ReY, isNew, stepO, XPost, postN, XOk, updN, updU, isEff, avalue, aeff, ASt.eval, ASt.put, ASt.set, ASt.new, Nat.reduceDiv, Nat.reduceAdd, Int.reduceToNat, absV, absC, scalar, alen, acap, conc, flats, live, blkOf, aload, rd, part?, afieldAddr, afield, aindexAddr, cellsOf, afill, places, abuild, optI, asliceV, asliceS, szOk, srcCells, aappend, acopy, aclear, astore, amakeSlice, abuildSlice, snapL, mapO, treeL, AVal.tree, AVal.flatT, isFlat, ares, isFz, afroz, afrozB, lookupA, lookupH, tops, if_true, if_false, reduceCtorEq, forall_const, ite_true, ite_false, implies_true, walkS, tabS, Try.results67]
        refine ex_loop (fun p : {p : Nat × (Int × Bool) × Nat × Nat // p.1 ≤ D[L.length].length ∧ FIn (L, p.2.1.1, p.2.1.2) ∧ loopF (runF D A l f (left - 1)) A l[L.length] (D[L.length].drop p.1) (L, p.2.1.1, p.2.1.2) = ((Lr, ndr, fur), okr)} => mk [(0, .ptr 0 0 0), (1, .i left), (5, .i L.length), (6, .i p.1.1)] [(0, ⟨0, 7, [proP D A, ints l, .lst [] 0, .own (Own.ch 0 3) p.1.2.2.1 0 L.length, .i p.1.2.1.1, .i 300, .b p.1.2.1.2]⟩), (Own.ch 0 3, ⟨p.1.2.2.1, 1, mapC AVal.i L⟩)] p.1.2.2.2 104) (fun p => D[L.length].length - p.1.1) ⟨(0, (nd1, fu1), g0, G0), Nat.zero_le _, hs1, hr⟩ ?_ ?_
        · refine weak_mk rfl (by first | exact Nat.le_refl _ | (simp only [mk_gen]; omega)) ?_ ?_ <;> simp +decide only [w_lookup_nil, w_lookup_cons, ch_ch, ch_lit, lit_ch, wkT, wkH, wkB, WVL, WV_refl', Int.natCast_zero, Int.natCast_add, Int.natCast_one, Nat.sub_self, Nat.sub_zero, List.replicate_zero, List.take_zero, List.nil_append, List.append_nil, fillC_zero, Nat.reduceDiv, Nat.reduceAdd, upd_bk, bk_at, getB_zero, getB_succ, modB_zero, modB_succ, rows_lit, repB_zero, repB_succ, List.length_cons, List.length_nil, upd_upd_same, upd_apply, mk_tmp, mk_heap, mk_gen, lookupA, lookupH, List.getD_cons_zero, List.getD_cons_succ, init_two, tops, Bool.true_and, and_self, and_true, true_and, true_or, if_true, if_false, ite_true, ite_false, reduceCtorEq, reduceIte, ← hg0, ← hG0]
        clear hg0 hG0
        rintro ⟨⟨k, ⟨nd2, fu2⟩, g, G⟩, k1, k2, k3⟩
        have k1' : k ≤ D[L.length].length := k1
        have k2' : FIn (L, nd2, fu2) := k2
        have k3' : loopF (runF D A l f (left - 1)) A l[L.length] (D[L.length].drop k) (L, nd2, fu2) = ((Lr, ndr, fur), okr) := k3
        by_cases klt : k < D[L.length].length
        case neg =>
          have kI : ¬ (k : Int) < (D[L.length].length : Int) := by omega
          rw [List.drop_of_length_le (by omega)] at k3'
          cases k3'
          simp (config := { maxSteps := 1000000 }) +decide only [NoH, Old, OldL, nilQ, nilA, asgn, nz, RechL, ReY, isNew, stepO, XPost, postN, XOk, updN, updU, isEff, avalue, aeff, ASt.eval, ASt.put, ASt.set, ASt.new, Nat.reduceDiv, Nat.reduceAdd, Int.reduceToNat, absV, absC, scalar, alen, acap, conc, flats, live, blkOf, aload, rd, part?, afieldAddr, afield, aindexAddr, cellsOf, afill, places, abuild, optI, asliceV, asliceS, szOk, srcCells, aappend, acopy, aclear, astore, amakeSlice, abuildSlice, snapL, mapO, treeL, AVal.tree, AVal.flatT, isFlat, ares, isFz, afroz, afrozB, lookupA, lookupH, tops, if_true, if_false, reduceCtorEq, forall_const, ite_true, ite_false, implies_true, walkS, tabS, Try.results67, eq_false kI, mD, mDI, ml, mlI, tL, treeL_i, treeL_ints]
        have kI : (k : Int) < (D[L.length].length : Int) := by omega
        have wk : IntKind.i64.wrap ((k : Int) + 1) = ((k + 1 : Nat) : Int) := wrap64 (by omega) (by omega)
        rw [List.drop_eq_getElem_cons klt] at k3'
        unfold loopF at k3'
        by_cases c2 : D[L.length][k] = l[L.length]
        · rw [if_pos c2] at k3'
          simp (config := { maxSteps := 1000000 }) +decide only [NoH, Old, OldL, nilQ, nilA, asgn, nz, RechL, ReY, isNew, stepO, XPost, postN, XOk, updN, updU, isEff, avalue, aeff, ASt.eval, ASt.put, ASt.set, ASt.new, Nat.reduceDiv, Nat.reduceAdd, Int.reduceToNat, absV, absC, scalar, alen, acap, conc, flats, live, blkOf, aload, rd, part?, afieldAddr, afield, aindexAddr, cellsOf, afill, places, abuild, optI, asliceV, asliceS, szOk, srcCells, aappend, acopy, aclear, astore, amakeSlice, abuildSlice, snapL, mapO, treeL, AVal.tree, AVal.flatT, isFlat, ares, isFz, afroz, afrozB, lookupA, lookupH, tops, if_true, if_false, reduceCtorEq, forall_const, ite_true, ite_false, implies_true, walkS, tabS, Try.results67, eq_true kI, klt, eq_true c2, mD, mDI, ml, mlI, wk]
          refine ⟨⟨(k + 1, (nd2, fu2), g, G), klt, k2', k3'⟩, ?_, by show D[L.length].length - (k + 1) < D[L.length].length - k; omega⟩
          refine weak_mk rfl (by first | exact Nat.le_refl _ | (simp only [mk_gen]; omega)) ?_ ?_ <;> simp +decide only [w_lookup_nil, w_lookup_cons, ch_ch, ch_lit, lit_ch, wkT, wkH, wkB, WVL, WV_refl', Int.natCast_zero, Int.natCast_add, Int.natCast_one, Nat.sub_self, Nat.sub_zero, List.replicate_zero, List.take_zero, List.nil_append, List.append_nil, fillC_zero, Nat.reduceDiv, Nat.reduceAdd, upd_bk, bk_at, getB_zero, getB_succ, modB_zero, modB_succ, rows_lit, repB_zero, repB_succ, List.length_cons, List.length_nil, upd_upd_same, upd_apply, mk_tmp, mk_heap, mk_gen, lookupA, lookupH, List.getD_cons_zero, List.getD_cons_succ, init_two, tops, Bool.true_and, and_self, and_true, true_and, true_or, if_true, if_false, ite_true, ite_false, reduceCtorEq, reduceIte]
        rw [if_neg c2] at k3'
        have hx2 := tryX (left - 1) (by omega) (by omega) D[L.length][k] nd2 fu2 k2'
        have ho2 := tryO (left - 1) D[L.length][k] nd2 fu2 k2'
        rcases ht2 : tryF (runF D A l f (left - 1)) A D[L.length][k] (L, nd2, fu2) with ⟨⟨L3, nd3, fu3⟩, ok3⟩
        rw [ht2] at hx2 ho2 k3'
        have tL3 : List.take L3.length L3 = L3 := List.take_length
        simp only [fnT, xints] at hx2
        simp (config := { maxSteps := 1000000 }) +decide only [NoH, Old, OldL, nilQ, nilA, asgn, nz, RechL, ReY, isNew, stepO, XPost, postN, XOk, updN, updU, isEff, avalue, aeff, ASt.eval, ASt.put, ASt.set, ASt.new, Nat.reduceDiv, Nat.reduceAdd, Int.reduceToNat, absV, absC, scalar, alen, acap, conc, flats, live, blkOf, aload, rd, part?, afieldAddr, afield, aindexAddr, cellsOf, afill, places, abuild, optI, asliceV, asliceS, szOk, srcCells, aappend, acopy, aclear, astore, amakeSlice, abuildSlice, snapL, mapO, treeL, AVal.tree, AVal.flatT, isFlat, ares, isFz, afroz, afrozB, lookupA, lookupH, tops, if_true, if_false, reduceCtorEq, forall_const, ite_true, ite_false, implies_true, walkS, tabS, Try.results67, eq_true kI, klt, eq_false c2, mD, mDI, ml, mlI, wl, tL, treeL_i, treeL_ints]
        refine callX (hx2) (by simp (config := { maxSteps := 1000000 }) +decide only [NoH, Old, OldL, nilQ, nilA, asgn, nz, RechL, ReY, isNew, stepO, XPost, postN, XOk, updN, updU, isEff, avalue, aeff, ASt.eval, ASt.put, ASt.set, ASt.new, Nat.reduceDiv, Nat.reduceAdd, Int.reduceToNat, absV, absC, scalar, alen, acap, conc, flats, live, blkOf, aload, rd, part?, afieldAddr, afield, aindexAddr, cellsOf, afill, places, abuild, optI, asliceV, asliceS, szOk, srcCells, aappend, acopy, aclear, astore, amakeSlice, abuildSlice, snapL, mapO, treeL, AVal.tree, AVal.flatT, isFlat, ares, isFz, afroz, afrozB, lookupA, lookupH, tops, if_true, if_false, reduceCtorEq, forall_const, ite_true, ite_false, implies_true, walkS, tabS, Try.results67, tL, mD, mDI, ml, mlI, treeL_i, treeL_ints]) ?_
        cases ok3
        case true =>
          simp only [if_true] at k3'
          cases k3'
          simp (config := { maxSteps := 1000000 }) +decide only [NoH, Old, OldL, nilQ, nilA, asgn, nz, RechL, ReY, isNew, stepO, XPost, postN, XOk, updN, updU, isEff, avalue, aeff, ASt.eval, ASt.put, ASt.set, ASt.new, Nat.reduceDiv, Nat.reduceAdd, Int.reduceToNat, absV, absC, scalar, alen, acap, conc, flats, live, blkOf, aload, rd, part?, afieldAddr, afield, aindexAddr, cellsOf, afill, places, abuild, optI, asliceV, asliceS, szOk, srcCells, aappend, acopy, aclear, astore, amakeSlice, abuildSlice, snapL, mapO, treeL, AVal.tree, AVal.flatT, isFlat, ares, isFz, afroz, afrozB, lookupA, lookupH, tops, if_true, if_false, reduceCtorEq, forall_const, ite_true, ite_false, implies_true, walkS, tabS, Try.results67, tL3, treeL_i, treeL_ints]
        simp only [Bool.false_eq_true, if_false] at k3'
        have e3 : L = L3 := (ho2.no rfl).symm
        have hs3 : FIn (L, nd3, fu3) := ⟨ho2.lo, ho2.hi⟩
        subst e3
        simp (config := { maxSteps := 1000000 }) +decide only [NoH, Old, OldL, nilQ, nilA, asgn, nz, RechL, ReY, isNew, stepO, XPost, postN, XOk, updN, updU, isEff, avalue, aeff, ASt.eval, ASt.put, ASt.set, ASt.new, Nat.reduceDiv, Nat.reduceAdd, Int.reduceToNat, absV, absC, scalar, alen, acap, conc, flats, live, blkOf, aload, rd, part?, afieldAddr, afield, aindexAddr, cellsOf, afill, places, abuild, optI, asliceV, asliceS, szOk, srcCells, aappend, acopy, aclear, astore, amakeSlice, abuildSlice, snapL, mapO, treeL, AVal.tree, AVal.flatT, isFlat, ares, isFz, afroz, afrozB, lookupA, lookupH, tops, if_true, if_false, reduceCtorEq, forall_const, ite_true, ite_false, implies_true, walkS, tabS, Try.results67, wk, tL, treeL_i, treeL_ints]
        refine ⟨⟨(k + 1, (nd3, fu3), G, G + 1), klt, hs3, k3'⟩, ?_, by show D[L.length].length - (k + 1) < D[L.length].length - k; omega⟩
        refine weak_mk rfl (by first | exact Nat.le_refl _ | (simp only [mk_gen]; omega)) ?_ ?_ <;> simp +decide only [w_lookup_nil, w_lookup_cons, ch_ch, ch_lit, lit_ch, wkT, wkH, wkB, WVL, WV_refl', Int.natCast_zero, Int.natCast_add, Int.natCast_one, Nat.sub_self, Nat.sub_zero, List.replicate_zero, List.take_zero, List.nil_append, List.append_nil, fillC_zero, Nat.reduceDiv, Nat.reduceAdd, upd_bk, bk_at, getB_zero, getB_succ, modB_zero, modB_succ, rows_lit, repB_zero, repB_succ, List.length_cons, List.length_nil, upd_upd_same, upd_apply, mk_tmp, mk_heap, mk_gen, lookupA, lookupH, List.getD_cons_zero, List.getD_cons_succ, init_two, tops, Bool.true_and, and_self, and_true, true_and, true_or, if_true, if_false, ite_true, ite_false, reduceCtorEq, reduceIte]
    exact key _ rfl
end Go.Proofs.Ytkmhoebopfgpdaa
