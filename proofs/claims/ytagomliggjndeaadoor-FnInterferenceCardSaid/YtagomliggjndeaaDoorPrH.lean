/-
  OWN WORK: the reference's search for assignments: what it finds has no violations.
-/
import Derived.Test.YtagomliggjndeaaDoorPrG
namespace Go.Proofs.YtagomliggjndeaaDoor
open Go Go.Own Go.Proofs
set_option maxHeartbeats 4000000
set_option maxRecDepth 20000
set_option linter.unusedSimpArgs false
/-- channels for the first items, without violations -/
structure Part (D A : List (List Int)) (pre : List Int) : Prop where
  dom : ∀ i (h : i < pre.length), pre[i] ∈ D.getD i []
  far : ∀ i (h : i < pre.length) k (hk : k < i), ¬ Near (pre[i]) (pre[k]) (ap A i k)
theorem part_nil (D A : List (List Int)) : Part D A [] := ⟨fun _ h => absurd h (Nat.not_lt_zero _), fun _ h => absurd h (Nat.not_lt_zero _)⟩
theorem part_snoc {D A : List (List Int)} {pre : List Int} {c : Int} (h : Part D A pre) (hc : c ∈ D.getD pre.length []) (hf : ∀ k (hk : k < pre.length), ¬ Near c (pre[k]) (ap A pre.length k)) : Part D A (pre ++ [c]) := by
  refine ⟨fun i hi => ?_, fun i hi k hk => ?_⟩
  · by_cases e : i < pre.length
    · rw [List.getElem_append_left e]; exact h.dom i e
    · have e2 : i = pre.length := by simp at hi; omega
      subst e2
      simpa using hc
  · by_cases e : i < pre.length
    · rw [List.getElem_append_left e, List.getElem_append_left (by omega)]; exact h.far i e k hk
    · have e2 : i = pre.length := by simp at hi; omega
      subst e2
      rw [List.getElem_append_left hk]
      simpa using hf k hk
theorem part_small {D A : List (List Int)} (h : PrD D A) {pre : List Int} (hp : Part D A pre) (hl : pre.length ≤ D.length) : ∀ k (hk : k < pre.length), 0 ≤ pre[k] ∧ pre[k] ≤ 11 := fun k hk => by
  have h1 := hp.dom k hk
  have hkD : k < D.length := by omega
  have eD : D.getD k [] = D[k] := by rw [List.getD_eq_getElem?_getD, List.getElem?_eq_getElem hkD, Option.getD_some]
  rw [eD] at h1
  obtain ⟨j, hj, e⟩ := List.getElem_of_mem h1
  rw [← e]
  exact ((h.dom _ (List.getElem_mem hkD)).up j hj).1
/-- the list while the search is at an item -/
def lst (pre : List Int) (n : Nat) : List Int := pre ++ List.replicate (n - pre.length) (-1)
theorem lst_len {pre : List Int} {n : Nat} (h : pre.length ≤ n) : (lst pre n).length = n := by simp [lst]; omega
theorem lst_set {pre : List Int} {n : Nat} (h : pre.length < n) (c : Int) : (lst pre n).set pre.length c = lst (pre ++ [c]) n := by
  unfold lst
  rw [List.set_append_right _ _ (Nat.le_refl _), Nat.sub_self, show n - pre.length = (n - (pre.length + 1)) + 1 by omega, List.replicate_succ, List.set_cons_zero, List.append_assoc]
  simp
theorem lst_back {pre : List Int} {n : Nat} (h : pre.length < n) (c : Int) : (lst (pre ++ [c]) n).set pre.length (-1) = lst pre n := by
  rw [← lst_set h c, List.set_set]
  unfold lst
  rw [List.set_append_right _ _ (Nat.le_refl _), Nat.sub_self, show n - pre.length = (n - (pre.length + 1)) + 1 by omega, List.replicate_succ, List.set_cons_zero]
theorem lst_all {pre : List Int} : lst pre pre.length = pre := by simp [lst]
theorem lst_get {pre : List Int} {n k : Nat} (hk : k < (lst pre n).length) : (∃ h : k < pre.length, (lst pre n)[k] = pre[k]) ∨ (lst pre n)[k] = -1 := by
  have e : (lst pre n)[k]? = some ((lst pre n)[k]) := List.getElem?_eq_getElem hk
  unfold lst at e
  by_cases h : k < pre.length
  · rw [List.getElem?_append_left h, List.getElem?_eq_getElem h] at e
    exact .inl ⟨h, (Option.some.inj e).symm⟩
  · rw [List.getElem?_append_right (by omega), List.getElem?_replicate] at e
    split at e
    · exact .inr (Option.some.inj e).symm
    · simp at e
theorem lst_small {D A : List (List Int)} (h : PrD D A) {pre : List Int} (hp : Part D A pre) (hl : pre.length ≤ D.length) : Small (lst pre D.length) := fun k hk => by
  rcases lst_get hk with ⟨h1, h2⟩ | h2
  · rw [h2]
    have := part_small h hp hl k h1
    omega
  · rw [h2]
    omega
theorem part_of_chs {D A : List (List Int)} (h : PrD D A) {pre : List Int} (hp : Part D A pre) (hl : pre.length < D.length) {k : Nat} {c : Int} (hc : c ∈ chs D A (lst pre D.length) pre.length k) : Part D A (pre ++ [c]) := by
  unfold chs at hc
  obtain ⟨h1, h2⟩ := List.mem_filter.1 hc
  rw [bp_true] at h2
  refine part_snoc hp (List.mem_of_mem_take h1) fun j hj => ?_
  have hlt : j < (lst pre D.length).length := by rw [lst_len (by omega)]; omega
  have hs := part_small h hp (by omega) j hj
  have e : (lst pre D.length)[j] = pre[j] := by
    have e : (lst pre D.length)[j]? = some ((lst pre D.length)[j]) := List.getElem?_eq_getElem hlt
    unfold lst at e
    rw [List.getElem?_append_left hj, List.getElem?_eq_getElem hj] at e
    exact (Option.some.inj e).symm
  have := h2 j hlt (by omega)
  rw [e] at this
  exact this hs.1
structure Asg (D A : List (List Int)) (r : List Int) : Prop where
  len : r.length = D.length
  part : Part D A r
/-- a search's state in memory -/
abbrev lT (D A : List (List Int)) (L : List Int) (nd B cnt : Int) (fst : List Int) : XT := .op [.v (proP D A), xints L, xi (-1), xi nd, xi B, xi cnt, xints fst, xb true]
abbrev LS := Bool × Int × Int × List Int
structure LsOk (D A : List (List Int)) (nd B : Int) (r : LS) : Prop where
  lo : nd ≤ r.2.1
  hi : r.2.1 ≤ B + 1
  yes : r.1 = true → r.2.1 ≤ B ∧ r.2.2.1 = 0
  no : r.2.2.1 = 0 → r.2.2.2 = []
  fnd : r.2.2.1 = 0 ∨ (r.2.2.1 = 1 ∧ Asg D A r.2.2.2)
theorem deny_searchStep {D A : List (List Int)} (h : PrD D A) (B : Int) (hB : 1 ≤ B ∧ B ≤ 20000) (f : Nat)
    (ih : ∀ (pre : List Int) (nd : Int) (fs : List Int), fs = [] → D.length - pre.length < f → pre.length ≤ D.length → Part D A pre → 0 ≤ nd → nd ≤ B → DenY Tryd.prog 51 [lT D A (lst pre D.length) nd B 0 fs, xi pre.length] (LsOk D A nd B) (fun r => [lT D A (lst pre D.length) r.2.1 B r.2.2.1 r.2.2.2, xi pre.length]) (fun r => xb r.1))
    (pre : List Int) (nd : Int) (fs : List Int) (hfs : fs = []) (hf : D.length - pre.length < f + 1) (hl : pre.length ≤ D.length) (hp : Part D A pre) (hn0 : 0 ≤ nd) (hn1 : nd ≤ B) :
    DenY Tryd.prog 51 [lT D A (lst pre D.length) nd B 0 fs, xi pre.length] (LsOk D A nd B) (fun r => [lT D A (lst pre D.length) r.2.1 B r.2.2.1 r.2.2.2, xi pre.length]) (fun r => xb r.1) := by
  have hn6 := h.few
  have hlA := h.len
  have hll := lst_len hl
  have hsm := lst_small h hp hl
  have htk : List.take (lst pre D.length).length (lst pre D.length) = lst pre D.length := List.take_length
  have hw0 : IntKind.i64.wrap (nd + 1) = nd + 1 := wrap64 (by omega) (by omega)
  have htf : List.take fs.length fs = fs := List.take_length
  generalize hLL : lst pre D.length = L at hll hsm htk ⊢
  refine denY_of_awpG (ghs [(41, Own.ch 0 6)] []) Tryd.func51 rfl (by kernel_rfl) (Nat.le_of_ble_eq_true rfl) (by simp +decide only [w_embA_nil, w_embA_cons, w_emb_v, w_emb_ol, w_emb_op, w_emb_agg, w_emb_tup, w_embL_nil, w_embL_cons, embL_i, List.map_cons, List.map_nil, List.nil_append, List.append_nil, List.cons_append, List.nodup_cons, List.nodup_nil, List.mem_cons, List.mem_nil_iff, List.not_mem_nil, ch_ch, ch_lit, lit_ch, Nat.reduceAdd]) mixed (by kernel_rfl) fun hl => ?_
  simp only [xlensL, xlens, lensL, lens, lensL_i, lensL_mapC, xlensL_i, maxI, and_true, true_and] at hl
  rw [Tryd.ntmps51]
  refine ex_start ?_
  by_cases hb : B < nd + 1
  · simp (config := { maxSteps := 1000000 }) +decide only [NoH, Old, OldL, nilQ, nilA, asgn, nz, RechL, ReY, isNew, stepO, XPost, postN, XOk, updN, updU, isEff, avalue, aeff, ASt.eval, ASt.put, ASt.set, ASt.new, Nat.reduceDiv, Nat.reduceAdd, Int.reduceToNat, absV, absC, scalar, alen, acap, conc, flats, live, blkOf, aload, rd, part?, afieldAddr, afield, aindexAddr, cellsOf, afill, places, abuild, optI, asliceV, asliceS, szOk, srcCells, aappend, acopy, astore, amakeSlice, abuildSlice, snapL, mapO, treeL, AVal.tree, AVal.flatT, isFlat, ares, isFz, afroz, afrozB, lookupA, lookupH, tops, if_true, if_false, reduceCtorEq, forall_const, ite_true, ite_false, implies_true, walkS, tabS, Tryd.results51, hw0, eq_true hb, htk]
    refine yret (false, nd + 1, 0, fs) ⟨by show nd ≤ nd + 1; omega, by show nd + 1 ≤ B + 1; omega, fun h => by simp at h, fun _ => hfs, .inl rfl⟩ ?_
    simp (config := { maxSteps := 1000000 }) +decide only [NoH, Old, OldL, nilQ, nilA, asgn, nz, RechL, ReY, isNew, stepO, XPost, postN, XOk, updN, updU, isEff, avalue, aeff, ASt.eval, ASt.put, ASt.set, ASt.new, Nat.reduceDiv, Nat.reduceAdd, Int.reduceToNat, absV, absC, scalar, alen, acap, conc, flats, live, blkOf, aload, rd, part?, afieldAddr, afield, aindexAddr, cellsOf, afill, places, abuild, optI, asliceV, asliceS, szOk, srcCells, aappend, acopy, astore, amakeSlice, abuildSlice, snapL, mapO, treeL, AVal.tree, AVal.flatT, isFlat, ares, isFz, afroz, afrozB, lookupA, lookupH, tops, if_true, if_false, reduceCtorEq, forall_const, ite_true, ite_false, implies_true, walkS, tabS, Tryd.results51, htk, htf]
  simp (config := { maxSteps := 1000000 }) +decide only [NoH, Old, OldL, nilQ, nilA, asgn, nz, RechL, ReY, isNew, stepO, XPost, postN, XOk, updN, updU, isEff, avalue, aeff, ASt.eval, ASt.put, ASt.set, ASt.new, Nat.reduceDiv, Nat.reduceAdd, Int.reduceToNat, absV, absC, scalar, alen, acap, conc, flats, live, blkOf, aload, rd, part?, afieldAddr, afield, aindexAddr, cellsOf, afill, places, abuild, optI, asliceV, asliceS, szOk, srcCells, aappend, acopy, astore, amakeSlice, abuildSlice, snapL, mapO, treeL, AVal.tree, AVal.flatT, isFlat, ares, isFz, afroz, afrozB, lookupA, lookupH, tops, if_true, if_false, reduceCtorEq, forall_const, ite_true, ite_false, implies_true, walkS, tabS, Tryd.results51, hw0, eq_false hb, htk, htf]
  by_cases he : pre.length = D.length
  · have heI : pre.length = L.length := by omega
    have eL : L = pre := by rw [← hLL, ← he]; exact lst_all
    simp (config := { maxSteps := 1000000 }) +decide only [NoH, Old, OldL, nilQ, nilA, asgn, nz, RechL, ReY, isNew, stepO, XPost, postN, XOk, updN, updU, isEff, avalue, aeff, ASt.eval, ASt.put, ASt.set, ASt.new, Nat.reduceDiv, Nat.reduceAdd, Int.reduceToNat, absV, absC, scalar, alen, acap, conc, flats, live, blkOf, aload, rd, part?, afieldAddr, afield, aindexAddr, cellsOf, afill, places, abuild, optI, asliceV, asliceS, szOk, srcCells, aappend, acopy, astore, amakeSlice, abuildSlice, snapL, mapO, treeL, AVal.tree, AVal.flatT, isFlat, ares, isFz, afroz, afrozB, lookupA, lookupH, tops, if_true, if_false, reduceCtorEq, forall_const, ite_true, ite_false, implies_true, walkS, tabS, Tryd.results51, eq_true heI]
    refine callX (denx_l00Own L (by omega)) (by simp (config := { maxSteps := 1000000 }) +decide only [NoH, Old, OldL, nilQ, nilA, asgn, nz, RechL, ReY, isNew, stepO, XPost, postN, XOk, updN, updU, isEff, avalue, aeff, ASt.eval, ASt.put, ASt.set, ASt.new, Nat.reduceDiv, Nat.reduceAdd, Int.reduceToNat, absV, absC, scalar, alen, acap, conc, flats, live, blkOf, aload, rd, part?, afieldAddr, afield, aindexAddr, cellsOf, afill, places, abuild, optI, asliceV, asliceS, szOk, srcCells, aappend, acopy, astore, amakeSlice, abuildSlice, snapL, mapO, treeL, AVal.tree, AVal.flatT, isFlat, ares, isFz, afroz, afrozB, lookupA, lookupH, tops, if_true, if_false, reduceCtorEq, forall_const, ite_true, ite_false, implies_true, walkS, tabS, Tryd.results51, htk, htf]) ?_
    simp (config := { maxSteps := 1000000 }) +decide only [NoH, Old, OldL, nilQ, nilA, asgn, nz, RechL, ReY, isNew, stepO, XPost, postN, XOk, updN, updU, isEff, avalue, aeff, ASt.eval, ASt.put, ASt.set, ASt.new, Nat.reduceDiv, Nat.reduceAdd, Int.reduceToNat, absV, absC, scalar, alen, acap, conc, flats, live, blkOf, aload, rd, part?, afieldAddr, afield, aindexAddr, cellsOf, afill, places, abuild, optI, asliceV, asliceS, szOk, srcCells, aappend, acopy, astore, amakeSlice, abuildSlice, snapL, mapO, treeL, AVal.tree, AVal.flatT, isFlat, ares, isFz, afroz, afrozB, lookupA, lookupH, tops, if_true, if_false, reduceCtorEq, forall_const, ite_true, ite_false, implies_true, walkS, tabS, Tryd.results51, htk, htf]
    refine yret (false, nd + 1, 1, L) ⟨by show nd ≤ nd + 1; omega, by show nd + 1 ≤ B + 1; omega, fun h => by simp at h, fun h => by simp at h, .inr ⟨rfl, by rw [eL]; exact he, by rw [eL]; exact hp⟩⟩ ?_
    simp (config := { maxSteps := 1000000 }) +decide only [NoH, Old, OldL, nilQ, nilA, asgn, nz, RechL, ReY, isNew, stepO, XPost, postN, XOk, updN, updU, isEff, avalue, aeff, ASt.eval, ASt.put, ASt.set, ASt.new, Nat.reduceDiv, Nat.reduceAdd, Int.reduceToNat, absV, absC, scalar, alen, acap, conc, flats, live, blkOf, aload, rd, part?, afieldAddr, afield, aindexAddr, cellsOf, afill, places, abuild, optI, asliceV, asliceS, szOk, srcCells, aappend, acopy, astore, amakeSlice, abuildSlice, snapL, mapO, treeL, AVal.tree, AVal.flatT, isFlat, ares, isFz, afroz, afrozB, lookupA, lookupH, tops, if_true, if_false, reduceCtorEq, forall_const, ite_true, ite_false, implies_true, walkS, tabS, Tryd.results51, htk, htf]
  have heI : ¬ pre.length = L.length := by omega
  have hlt : pre.length < D.length := by omega
  have hltL : pre.length < L.length := by omega
  have hdk := (h.dom _ (List.getElem_mem hlt)).few
  have eD : D.getD pre.length [] = D[pre.length] := by rw [List.getD_eq_getElem?_getD, List.getElem?_eq_getElem hlt, Option.getD_some]
  have hcl := chs_le D A L pre.length D[pre.length].length
  rw [eD] at hcl
  simp (config := { maxSteps := 1000000 }) +decide only [NoH, Old, OldL, nilQ, nilA, asgn, nz, RechL, ReY, isNew, stepO, XPost, postN, XOk, updN, updU, isEff, avalue, aeff, ASt.eval, ASt.put, ASt.set, ASt.new, Nat.reduceDiv, Nat.reduceAdd, Int.reduceToNat, absV, absC, scalar, alen, acap, conc, flats, live, blkOf, aload, rd, part?, afieldAddr, afield, aindexAddr, cellsOf, afill, places, abuild, optI, asliceV, asliceS, szOk, srcCells, aappend, acopy, astore, amakeSlice, abuildSlice, snapL, mapO, treeL, AVal.tree, AVal.flatT, isFlat, ares, isFz, afroz, afrozB, lookupA, lookupH, tops, if_true, if_false, reduceCtorEq, forall_const, ite_true, ite_false, implies_true, walkS, tabS, Tryd.results51, eq_false heI]
  refine callX (denx_l18Choices h L pre.length hll hlt hsm) (by simp (config := { maxSteps := 1000000 }) +decide only [NoH, Old, OldL, nilQ, nilA, asgn, nz, RechL, ReY, isNew, stepO, XPost, postN, XOk, updN, updU, isEff, avalue, aeff, ASt.eval, ASt.put, ASt.set, ASt.new, Nat.reduceDiv, Nat.reduceAdd, Int.reduceToNat, absV, absC, scalar, alen, acap, conc, flats, live, blkOf, aload, rd, part?, afieldAddr, afield, aindexAddr, cellsOf, afill, places, abuild, optI, asliceV, asliceS, szOk, srcCells, aappend, acopy, astore, amakeSlice, abuildSlice, snapL, mapO, treeL, AVal.tree, AVal.flatT, isFlat, ares, isFz, afroz, afrozB, lookupA, lookupH, tops, if_true, if_false, reduceCtorEq, forall_const, ite_true, ite_false, implies_true, walkS, tabS, Tryd.results51, htk, htf]) ?_
  obtain ⟨C, hC⟩ : ∃ C, chs D A L pre.length D[pre.length].length = C := ⟨_, rfl⟩
  rw [hC] at hcl ⊢
  have hCp : ∀ c ∈ C, Part D A (pre ++ [c]) := fun c hc => part_of_chs h hp hlt (k := D[pre.length].length) (by rw [hLL, hC]; exact hc)
  simp (config := { maxSteps := 1000000 }) +decide only [NoH, Old, OldL, nilQ, nilA, asgn, nz, RechL, ReY, isNew, stepO, XPost, postN, XOk, updN, updU, isEff, avalue, aeff, ASt.eval, ASt.put, ASt.set, ASt.new, Nat.reduceDiv, Nat.reduceAdd, Int.reduceToNat, absV, absC, scalar, alen, acap, conc, flats, live, blkOf, aload, rd, part?, afieldAddr, afield, aindexAddr, cellsOf, afill, places, abuild, optI, asliceV, asliceS, szOk, srcCells, aappend, acopy, astore, amakeSlice, abuildSlice, snapL, mapO, treeL, AVal.tree, AVal.flatT, isFlat, ares, isFz, afroz, afrozB, lookupA, lookupH, tops, if_true, if_false, reduceCtorEq, forall_const, ite_true, ite_false, implies_true, walkS, tabS, Tryd.results51, htk, htf]
  have hnB : nd + 1 ≤ B := by omega
  refine ex_loop (fun p : {p : Nat × Int × List Int × Nat × Nat × Nat // p.1 ≤ C.length ∧ (nd + 1 ≤ p.2.1 ∧ p.2.1 ≤ B) ∧ p.2.2.1 = []} => mkG (ghs [(41, Own.ch 0 6)] []) [(0, .ptr 0 0 0), (1, .i pre.length), (5, .own 65 1 0 C.length), (6, .i p.1.1)] [(0, ⟨0, 8, [proP D A, .own (Own.ch 0 1) p.1.2.2.2.1 0 L.length, .i (-1), .i p.1.2.1, .i B, .i 0, .own (Own.ch 0 6) p.1.2.2.2.2.1 0 p.1.2.2.1.length, .b true]⟩), (Own.ch 0 1, ⟨p.1.2.2.2.1, 1, mapC AVal.i L⟩), (Own.ch 0 6, ⟨p.1.2.2.2.2.1, 1, mapC AVal.i p.1.2.2.1⟩), (65, ⟨1, 1, mapC AVal.i C⟩)] p.1.2.2.2.2.2 114) (fun p => C.length - p.1.1) ⟨(0, nd + 1, fs, 0, 0, 2), Nat.zero_le _, ⟨Int.le_refl _, hnB⟩, hfs⟩ ?_ ?_
  · refine weak_mk rfl (by first | exact Nat.le_refl _ | (simp only [mk_gen]; omega)) ?_ ?_ <;> simp +decide only [w_lookup_nil, w_lookup_cons, ch_ch, ch_lit, lit_ch, wkT, wkH, wkB, WVL, WV_refl', Int.natCast_zero, Int.natCast_add, Int.natCast_one, Nat.sub_self, Nat.sub_zero, List.replicate_zero, List.take_zero, List.nil_append, List.append_nil, fillC_zero, Nat.reduceDiv, Nat.reduceAdd, upd_bk, bk_at, getB_zero, getB_succ, modB_zero, modB_succ, rows_lit, repB_zero, repB_succ, List.length_cons, List.length_nil, upd_upd_same, upd_apply, mk_tmp, mk_heap, mk_gen, lookupA, lookupH, List.getD_cons_zero, List.getD_cons_succ, init_two, tops, Bool.true_and, and_self, and_true, true_and, true_or, if_true, if_false, ite_true, ite_false, reduceCtorEq, reduceIte]
  rintro ⟨⟨i, nd1, fs1, g1, g6, G⟩, i1, i2, i3⟩
  have i1' : i ≤ C.length := i1
  have i2' : nd + 1 ≤ nd1 ∧ nd1 ≤ B := i2
  have i3' : fs1 = [] := i3
  have htg : List.take fs1.length fs1 = fs1 := List.take_length
  by_cases ilt : i < C.length
  case neg =>
    have iltI : ¬ (i : Int) < (C.length : Int) := by omega
    simp (config := { maxSteps := 1000000 }) +decide only [NoH, Old, OldL, nilQ, nilA, asgn, nz, RechL, ReY, isNew, stepO, XPost, postN, XOk, updN, updU, isEff, avalue, aeff, ASt.eval, ASt.put, ASt.set, ASt.new, Nat.reduceDiv, Nat.reduceAdd, Int.reduceToNat, absV, absC, scalar, alen, acap, conc, flats, live, blkOf, aload, rd, part?, afieldAddr, afield, aindexAddr, cellsOf, afill, places, abuild, optI, asliceV, asliceS, szOk, srcCells, aappend, acopy, astore, amakeSlice, abuildSlice, snapL, mapO, treeL, AVal.tree, AVal.flatT, isFlat, ares, isFz, afroz, afrozB, lookupA, lookupH, tops, if_true, if_false, reduceCtorEq, forall_const, ite_true, ite_false, implies_true, walkS, tabS, Tryd.results51, eq_false iltI]
    refine yret (true, nd1, 0, fs1) ⟨by show nd ≤ nd1; omega, by show nd1 ≤ B + 1; omega, fun _ => ⟨i2'.2, rfl⟩, fun _ => i3', .inl rfl⟩ ?_
    simp (config := { maxSteps := 1000000 }) +decide only [NoH, Old, OldL, nilQ, nilA, asgn, nz, RechL, ReY, isNew, stepO, XPost, postN, XOk, updN, updU, isEff, avalue, aeff, ASt.eval, ASt.put, ASt.set, ASt.new, Nat.reduceDiv, Nat.reduceAdd, Int.reduceToNat, absV, absC, scalar, alen, acap, conc, flats, live, blkOf, aload, rd, part?, afieldAddr, afield, aindexAddr, cellsOf, afill, places, abuild, optI, asliceV, asliceS, szOk, srcCells, aappend, acopy, astore, amakeSlice, abuildSlice, snapL, mapO, treeL, AVal.tree, AVal.flatT, isFlat, ares, isFz, afroz, afrozB, lookupA, lookupH, tops, if_true, if_false, reduceCtorEq, forall_const, ite_true, ite_false, implies_true, walkS, tabS, Tryd.results51, htk, htg]
  have iltI : (i : Int) < (C.length : Int) := by omega
  have hpc := hCp _ (List.getElem_mem ilt)
  have wi : IntKind.i64.wrap ((i : Int) + 1) = ((i + 1 : Nat) : Int) := wrap64 (by omega) (by omega)
  have wp : IntKind.i64.wrap ((pre.length : Int) + 1) = ((pre.length + 1 : Nat) : Int) := wrap64 (by omega) (by omega)
  have hlc : (pre ++ [C[i]]).length = pre.length + 1 := by simp
  have hx := ih (pre ++ [C[i]]) nd1 fs1 i3' (by omega) (by omega) hpc (by omega) i2'.2
  have e1 : L.set pre.length C[i] = lst (pre ++ [C[i]]) D.length := by rw [← hLL]; exact lst_set hlt _
  have e2 := lst_back hlt C[i]
  rw [hLL] at e2
  have hl2 := lst_len (pre := pre ++ [C[i]]) (n := D.length) (by omega)
  generalize lst (pre ++ [C[i]]) D.length = L2 at hx e1 e2 hl2
  have hl3 : L2.length = L.length := by omega
  have htk2 : List.take L.length L2 = L2 := List.take_of_length_le (by omega)
  have hlt2 : pre.length < L2.length := by omega
  simp only [lT, xints, hl3, hlc] at hx
  simp (config := { maxSteps := 1000000 }) +decide only [NoH, Old, OldL, nilQ, nilA, asgn, nz, RechL, ReY, isNew, stepO, XPost, postN, XOk, updN, updU, isEff, avalue, aeff, ASt.eval, ASt.put, ASt.set, ASt.new, Nat.reduceDiv, Nat.reduceAdd, Int.reduceToNat, absV, absC, scalar, alen, acap, conc, flats, live, blkOf, aload, rd, part?, afieldAddr, afield, aindexAddr, cellsOf, afill, places, abuild, optI, asliceV, asliceS, szOk, srcCells, aappend, acopy, astore, amakeSlice, abuildSlice, snapL, mapO, treeL, AVal.tree, AVal.flatT, isFlat, ares, isFz, afroz, afrozB, lookupA, lookupH, tops, if_true, if_false, reduceCtorEq, forall_const, ite_true, ite_false, implies_true, walkS, tabS, Tryd.results51, eq_true iltI, ilt, hltL, e1]
  refine callY (hx) (by simp (config := { maxSteps := 1000000 }) +decide only [NoH, Old, OldL, nilQ, nilA, asgn, nz, RechL, ReY, isNew, stepO, XPost, postN, XOk, updN, updU, isEff, avalue, aeff, ASt.eval, ASt.put, ASt.set, ASt.new, Nat.reduceDiv, Nat.reduceAdd, Int.reduceToNat, absV, absC, scalar, alen, acap, conc, flats, live, blkOf, aload, rd, part?, afieldAddr, afield, aindexAddr, cellsOf, afill, places, abuild, optI, asliceV, asliceS, szOk, srcCells, aappend, acopy, astore, amakeSlice, abuildSlice, snapL, mapO, treeL, AVal.tree, AVal.flatT, isFlat, ares, isFz, afroz, afrozB, lookupA, lookupH, tops, if_true, if_false, reduceCtorEq, forall_const, ite_true, ite_false, implies_true, walkS, tabS, Tryd.results51, htk2, htg, hl3, wp]) (fun i hi => by simp (config := { maxSteps := 1000000 }) +decide only [NoH, Old, OldL, nilQ, nilA, asgn, nz, RechL, ReY, isNew, stepO, XPost, postN, XOk, updN, updU, isEff, avalue, aeff, ASt.eval, ASt.put, ASt.set, ASt.new, Nat.reduceDiv, Nat.reduceAdd, Int.reduceToNat, absV, absC, scalar, alen, acap, conc, flats, live, blkOf, aload, rd, part?, afieldAddr, afield, aindexAddr, cellsOf, afill, places, abuild, optI, asliceV, asliceS, szOk, srcCells, aappend, acopy, astore, amakeSlice, abuildSlice, snapL, mapO, treeL, AVal.tree, AVal.flatT, isFlat, ares, isFz, afroz, afrozB, lookupA, lookupH, tops, if_true, if_false, reduceCtorEq, forall_const, ite_true, ite_false, implies_true, walkS, tabS, Tryd.results51, htk2, htg, hl3, wp]) ?_
  rintro ⟨ret, nd2, cnt2, fs2⟩ hr
  have r1 : nd1 ≤ nd2 := hr.lo
  have htg2 : List.take fs2.length fs2 = fs2 := List.take_length
  cases ret
  case true =>
    obtain ⟨r2, r3⟩ := hr.yes rfl
    have r2' : nd2 ≤ B := r2
    obtain rfl : cnt2 = 0 := r3
    have r4 : fs2 = [] := hr.no rfl
    simp (config := { maxSteps := 1000000 }) +decide only [NoH, Old, OldL, nilQ, nilA, asgn, nz, RechL, ReY, isNew, stepO, XPost, postN, XOk, updN, updU, isEff, avalue, aeff, ASt.eval, ASt.put, ASt.set, ASt.new, Nat.reduceDiv, Nat.reduceAdd, Int.reduceToNat, absV, absC, scalar, alen, acap, conc, flats, live, blkOf, aload, rd, part?, afieldAddr, afield, aindexAddr, cellsOf, afill, places, abuild, optI, asliceV, asliceS, szOk, srcCells, aappend, acopy, astore, amakeSlice, abuildSlice, snapL, mapO, treeL, AVal.tree, AVal.flatT, isFlat, ares, isFz, afroz, afrozB, lookupA, lookupH, tops, if_true, if_false, reduceCtorEq, forall_const, ite_true, ite_false, implies_true, walkS, tabS, Tryd.results51, hltL, hlt2, hl3, htk2, htg2, e2, wi]
    refine ⟨⟨(i + 1, nd2, fs2, G, G, G + 1), ilt, ⟨by show nd + 1 ≤ nd2; omega, r2'⟩, r4⟩, ?_, by show C.length - (i + 1) < C.length - i; omega⟩
    refine weak_mk rfl (by first | exact Nat.le_refl _ | (simp only [mk_gen]; omega)) ?_ ?_ <;> simp +decide only [w_lookup_nil, w_lookup_cons, ch_ch, ch_lit, lit_ch, wkT, wkH, wkB, WVL, WV_refl', Int.natCast_zero, Int.natCast_add, Int.natCast_one, Nat.sub_self, Nat.sub_zero, List.replicate_zero, List.take_zero, List.nil_append, List.append_nil, fillC_zero, Nat.reduceDiv, Nat.reduceAdd, upd_bk, bk_at, getB_zero, getB_succ, modB_zero, modB_succ, rows_lit, repB_zero, repB_succ, List.length_cons, List.length_nil, upd_upd_same, upd_apply, mk_tmp, mk_heap, mk_gen, lookupA, lookupH, List.getD_cons_zero, List.getD_cons_succ, init_two, tops, Bool.true_and, and_self, and_true, true_and, true_or, if_true, if_false, ite_true, ite_false, reduceCtorEq, reduceIte]
  case false =>
    simp (config := { maxSteps := 1000000 }) +decide only [NoH, Old, OldL, nilQ, nilA, asgn, nz, RechL, ReY, isNew, stepO, XPost, postN, XOk, updN, updU, isEff, avalue, aeff, ASt.eval, ASt.put, ASt.set, ASt.new, Nat.reduceDiv, Nat.reduceAdd, Int.reduceToNat, absV, absC, scalar, alen, acap, conc, flats, live, blkOf, aload, rd, part?, afieldAddr, afield, aindexAddr, cellsOf, afill, places, abuild, optI, asliceV, asliceS, szOk, srcCells, aappend, acopy, astore, amakeSlice, abuildSlice, snapL, mapO, treeL, AVal.tree, AVal.flatT, isFlat, ares, isFz, afroz, afrozB, lookupA, lookupH, tops, if_true, if_false, reduceCtorEq, forall_const, ite_true, ite_false, implies_true, walkS, tabS, Tryd.results51, hltL, hlt2, hl3, htk2, htg2, e2, wi]
    refine yret (false, nd2, cnt2, fs2) ⟨by show nd ≤ nd2; omega, hr.hi, fun h => by simp at h, hr.no, hr.fnd⟩ ?_
    simp (config := { maxSteps := 1000000 }) +decide only [NoH, Old, OldL, nilQ, nilA, asgn, nz, RechL, ReY, isNew, stepO, XPost, postN, XOk, updN, updU, isEff, avalue, aeff, ASt.eval, ASt.put, ASt.set, ASt.new, Nat.reduceDiv, Nat.reduceAdd, Int.reduceToNat, absV, absC, scalar, alen, acap, conc, flats, live, blkOf, aload, rd, part?, afieldAddr, afield, aindexAddr, cellsOf, afill, places, abuild, optI, asliceV, asliceS, szOk, srcCells, aappend, acopy, astore, amakeSlice, abuildSlice, snapL, mapO, treeL, AVal.tree, AVal.flatT, isFlat, ares, isFz, afroz, afrozB, lookupA, lookupH, tops, if_true, if_false, reduceCtorEq, forall_const, ite_true, ite_false, implies_true, walkS, tabS, Tryd.results51, htk, htg2, hltL, hlt2, hl3]
theorem deny_search {D A : List (List Int)} (h : PrD D A) (B : Int) (hB : 1 ≤ B ∧ B ≤ 20000) : ∀ (f : Nat) (pre : List Int) (nd : Int) (fs : List Int), fs = [] → D.length - pre.length < f → pre.length ≤ D.length → Part D A pre → 0 ≤ nd → nd ≤ B →
    DenY Tryd.prog 51 [lT D A (lst pre D.length) nd B 0 fs, xi pre.length] (LsOk D A nd B) (fun r => [lT D A (lst pre D.length) r.2.1 B r.2.2.1 r.2.2.2, xi pre.length]) (fun r => xb r.1)
  | 0, _, _, _, _, h, _, _, _, _ => absurd h (Nat.not_lt_zero _)
  | f + 1, pre, nd, fs, hfs, hf, hl, hp, h0, h1 => deny_searchStep h B hB f (fun pre nd fs a1 a2 a3 a4 a5 a6 => deny_search h B hB f pre nd fs a1 a2 a3 a4 a5 a6) pre nd fs hfs hf hl hp h0 h1
end Go.Proofs.YtagomliggjndeaaDoor
