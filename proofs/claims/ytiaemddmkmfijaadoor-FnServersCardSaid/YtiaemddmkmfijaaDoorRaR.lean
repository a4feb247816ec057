/-
  OWN WORK: a server added to a raster, both sides.
  OWN WORK: a server added to a raster.
-/
import Derived.Test.YtiaemddmkmfijaaDoorRaP
import Derived.Test.YtiaemddmkmfijaaDoorRaN
namespace Go.Proofs.YtiaemddmkmfijaaDoor
open Go Go.Own Go.Proofs
set_option maxHeartbeats 4000000
set_option maxRecDepth 20000
set_option linter.unusedSimpArgs false
noncomputable def upK (c : Nat → Prop) (v : Nat → Int) (a : List Int) (k : Nat) : List Int := (List.range a.length).map fun i => if bp (i < k ∧ c i) then v i else a.getD i 0
section
variable {c : Nat → Prop} {v : Nat → Int} {a : List Int} {k : Nat}
theorem upK_length : (upK c v a k).length = a.length := by simp [upK]
theorem upK_get {i : Nat} (h : i < a.length) : (upK c v a k)[i]'(by rw [upK_length]; exact h) = if bp (i < k ∧ c i) then v i else a[i] := by
  simp [upK, List.getD, h]
theorem upK_zero : upK c v a 0 = a := by
  apply List.ext_getElem
  · exact upK_length
  · intro i h1 h2
    rw [upK_get h2, if_neg (by rw [bp_true]; omega)]
theorem upK_yes (h : c k) : (upK c v a k).set k (v k) = upK c v a (k + 1) := by
  apply List.ext_getElem
  · simp [upK_length]
  · intro i h1 h2
    have hi : i < a.length := by rw [upK_length] at h2; exact h2
    rw [List.getElem_set, upK_get hi, upK_get hi]
    by_cases e : k = i
    · subst e
      rw [if_pos rfl, if_pos (by rw [bp_true]; exact ⟨by omega, h⟩)]
    · rw [if_neg e, show bp (i < k + 1 ∧ c i) = bp (i < k ∧ c i) from bp_congr ⟨fun h => ⟨by omega, h.2⟩, fun h => ⟨by omega, h.2⟩⟩]
theorem upK_no (h : ¬ c k) : upK c v a (k + 1) = upK c v a k := by
  apply List.ext_getElem
  · simp [upK_length]
  · intro i h1 h2
    have hi : i < a.length := by rw [upK_length] at h2; exact h2
    rw [upK_get hi, upK_get hi, show bp (i < k + 1 ∧ c i) = bp (i < k ∧ c i) from bp_congr ⟨fun h2 => ⟨by
      have : i ≠ k := fun e => h (e ▸ h2.2)
      omega, h2.2⟩, fun h => ⟨by omega, h.2⟩⟩]
theorem upK_at (h : k < a.length) : (upK c v a k)[k]'(by rw [upK_length]; exact h) = a[k] := by rw [upK_get h, if_neg (by rw [bp_true]; omega)]
end
def adC (sv lv xs : List Int) (least : Int) (i : Nat) : Prop := least ≤ xs.getD i 0 ∧ (sv.getD i 0 < 0 ∨ lv.getD i 0 < xs.getD i 0)
noncomputable def adS (sv lv xs : List Int) (server least : Int) (k : Nat) : List Int := upK (adC sv lv xs least) (fun _ => server) sv k
noncomputable def adL (sv lv xs : List Int) (least : Int) (k : Nat) : List Int := upK (adC sv lv xs least) (fun i => xs.getD i 0) lv k
def SrvOk (server least : Int) : Prop := (0 ≤ server ∧ server ≤ 23) ∧ LevOk least
def LvsOk (lv xs : List Int) : Prop := xs.length = lv.length ∧ ∀ x ∈ xs, LevOk x
noncomputable def adR (s w h : Int) (sv lv : List Int) (server : Int) (xs : List Int) (least : Int) : Rst := if bp (OkRas s w h sv lv ∧ SrvOk server least ∧ LvsOk lv xs) then ⟨s, w, h, adS sv lv xs server least lv.length, adL sv lv xs least lv.length⟩ else r0
noncomputable def adE (s w h : Int) (sv lv : List Int) (server : Int) (xs : List Int) (least : Int) : Int := if bp (OkRas s w h sv lv) then (if bp (SrvOk server least) then (if bp (LvsOk lv xs) then 0 else 6) else 2) else 1
section
variable {s w h : Int} {sv lv : List Int} {server : Int} {xs : List Int} {least : Int}
theorem ad_no (h1 : ¬ OkRas s w h sv lv) : adR s w h sv lv server xs least = r0 ∧ adE s w h sv lv server xs least = 1 := by
  unfold adR adE
  rw [if_neg (by rw [bp_true]; exact fun h => h1 h.1), if_neg (by rw [bp_true]; exact h1)]
  exact ⟨rfl, rfl⟩
theorem ad_rng (h1 : OkRas s w h sv lv) (h2 : ¬ SrvOk server least) : adR s w h sv lv server xs least = r0 ∧ adE s w h sv lv server xs least = 2 := by
  unfold adR adE
  rw [if_neg (by rw [bp_true]; exact fun h => h2 h.2.1), if_pos (by rw [bp_true]; exact h1), if_neg (by rw [bp_true]; exact h2)]
  exact ⟨rfl, rfl⟩
theorem ad_st (h1 : OkRas s w h sv lv) (h2 : SrvOk server least) (h3 : ¬ LvsOk lv xs) : adR s w h sv lv server xs least = r0 ∧ adE s w h sv lv server xs least = 6 := by
  unfold adR adE
  rw [if_neg (by rw [bp_true]; exact fun h => h3 h.2.2), if_pos (by rw [bp_true]; exact h1), if_pos (by rw [bp_true]; exact h2), if_neg (by rw [bp_true]; exact h3)]
  exact ⟨rfl, rfl⟩
theorem ad_yes (h1 : OkRas s w h sv lv) (h2 : SrvOk server least) (h3 : LvsOk lv xs) : adR s w h sv lv server xs least = ⟨s, w, h, adS sv lv xs server least lv.length, adL sv lv xs least lv.length⟩ ∧ adE s w h sv lv server xs least = 0 := by
  unfold adR adE
  rw [if_pos (by rw [bp_true]; exact ⟨h1, h2, h3⟩), if_pos (by rw [bp_true]; exact h1), if_pos (by rw [bp_true]; exact h2), if_pos (by rw [bp_true]; exact h3)]
  exact ⟨rfl, rfl⟩
end
theorem denx_implAddServer (s w h : Int) (sv lv : List Int) (server : Int) (xs : List Int) (least : Int) : DenX Tryd.prog 30 [.v (rasV s w h sv lv), xi server, .v (ints xs), xi least] [.v (rasV s w h sv lv), xi server, .v (ints xs), xi least] (.tup [rstX (adR s w h sv lv server xs least), xi (adE s w h sv lv server xs least)]) := by
  refine denx_of_awp Tryd.func30 rfl (by kernel_rfl) (Nat.le_of_ble_eq_true rfl) (by simp +decide only [w_embA_nil, w_embA_cons, w_emb_v, w_emb_ol, w_emb_op, w_emb_agg, w_emb_tup, w_embL_nil, w_embL_cons, embL_i, List.map_cons, List.map_nil, List.nil_append, List.append_nil, List.cons_append, List.nodup_cons, List.nodup_nil, List.mem_cons, List.mem_nil_iff, List.not_mem_nil, ch_ch, ch_lit, lit_ch, Nat.reduceAdd]) mixed (by kernel_rfl) fun hl => ?_
  simp only [xlensL, xlens, lensL, lens, lensL_i, lensL_mapC, xlensL_i, maxI, and_true, true_and] at hl
  rw [Tryd.ntmps30]
  refine ex_start ?_
  by_cases h1 : OkRas s w h sv lv
  case neg =>
    obtain ⟨e1, e2⟩ := ad_no (server := server) (xs := xs) (least := least) h1
    rw [e1, e2]
    simp (config := { maxSteps := 1000000 }) +decide only [NoH, Old, OldL, nilQ, nilA, asgn, nz, RechL, ReY, isNew, stepO, XPost, postN, XOk, updN, updU, isEff, avalue, aeff, ASt.eval, ASt.put, ASt.set, ASt.new, Nat.reduceDiv, Nat.reduceAdd, Int.reduceToNat, absV, absC, scalar, alen, acap, conc, flats, live, blkOf, aload, rd, part?, afieldAddr, afield, aindexAddr, cellsOf, afill, places, abuild, optI, asliceV, asliceS, szOk, srcCells, aappend, acopy, astore, amakeSlice, abuildSlice, snapL, mapO, treeL, AVal.tree, AVal.flatT, isFlat, ares, isFz, afroz, afrozB, lookupA, lookupH, tops, if_true, if_false, reduceCtorEq, forall_const, ite_true, ite_false, implies_true, walkS, tabS, Tryd.results30]
    refine callK (den_ValidRaster s w h sv lv) (by first | exact .inl rfl | exact .inr rfl) ?_
    simp (config := { maxSteps := 1000000 }) +decide only [NoH, Old, OldL, nilQ, nilA, asgn, nz, RechL, ReY, isNew, stepO, XPost, postN, XOk, updN, updU, isEff, avalue, aeff, ASt.eval, ASt.put, ASt.set, ASt.new, Nat.reduceDiv, Nat.reduceAdd, Int.reduceToNat, absV, absC, scalar, alen, acap, conc, flats, live, blkOf, aload, rd, part?, afieldAddr, afield, aindexAddr, cellsOf, afill, places, abuild, optI, asliceV, asliceS, szOk, srcCells, aappend, acopy, astore, amakeSlice, abuildSlice, snapL, mapO, treeL, AVal.tree, AVal.flatT, isFlat, ares, isFz, afroz, afrozB, lookupA, lookupH, tops, if_true, if_false, reduceCtorEq, forall_const, ite_true, ite_false, implies_true, walkS, tabS, Tryd.results30, eq_false h1, r0, rstX, rasX, mapC_nil]
  have hl1 := h1.2.2.1
  have hb1 := (ok_pos h1).2
  simp (config := { maxSteps := 1000000 }) +decide only [NoH, Old, OldL, nilQ, nilA, asgn, nz, RechL, ReY, isNew, stepO, XPost, postN, XOk, updN, updU, isEff, avalue, aeff, ASt.eval, ASt.put, ASt.set, ASt.new, Nat.reduceDiv, Nat.reduceAdd, Int.reduceToNat, absV, absC, scalar, alen, acap, conc, flats, live, blkOf, aload, rd, part?, afieldAddr, afield, aindexAddr, cellsOf, afill, places, abuild, optI, asliceV, asliceS, szOk, srcCells, aappend, acopy, astore, amakeSlice, abuildSlice, snapL, mapO, treeL, AVal.tree, AVal.flatT, isFlat, ares, isFz, afroz, afrozB, lookupA, lookupH, tops, if_true, if_false, reduceCtorEq, forall_const, ite_true, ite_false, implies_true, walkS, tabS, Tryd.results30]
  refine callK (den_ValidRaster s w h sv lv) (by first | exact .inl rfl | exact .inr rfl) ?_
  simp (config := { maxSteps := 1000000 }) +decide only [NoH, Old, OldL, nilQ, nilA, asgn, nz, RechL, ReY, isNew, stepO, XPost, postN, XOk, updN, updU, isEff, avalue, aeff, ASt.eval, ASt.put, ASt.set, ASt.new, Nat.reduceDiv, Nat.reduceAdd, Int.reduceToNat, absV, absC, scalar, alen, acap, conc, flats, live, blkOf, aload, rd, part?, afieldAddr, afield, aindexAddr, cellsOf, afill, places, abuild, optI, asliceV, asliceS, szOk, srcCells, aappend, acopy, astore, amakeSlice, abuildSlice, snapL, mapO, treeL, AVal.tree, AVal.flatT, isFlat, ares, isFz, afroz, afrozB, lookupA, lookupH, tops, if_true, if_false, reduceCtorEq, forall_const, ite_true, ite_false, implies_true, walkS, tabS, Tryd.results30, eq_true h1]
  refine callK (den_within server 0 23) (by first | exact .inl rfl | exact .inr rfl) ?_
  by_cases c1 : 0 ≤ server ∧ server ≤ 23
  case neg =>
    obtain ⟨e1, e2⟩ := ad_rng (xs := xs) h1 (fun h : SrvOk server least => c1 h.1)
    rw [e1, e2]
    simp (config := { maxSteps := 1000000 }) +decide only [NoH, Old, OldL, nilQ, nilA, asgn, nz, RechL, ReY, isNew, stepO, XPost, postN, XOk, updN, updU, isEff, avalue, aeff, ASt.eval, ASt.put, ASt.set, ASt.new, Nat.reduceDiv, Nat.reduceAdd, Int.reduceToNat, absV, absC, scalar, alen, acap, conc, flats, live, blkOf, aload, rd, part?, afieldAddr, afield, aindexAddr, cellsOf, afill, places, abuild, optI, asliceV, asliceS, szOk, srcCells, aappend, acopy, astore, amakeSlice, abuildSlice, snapL, mapO, treeL, AVal.tree, AVal.flatT, isFlat, ares, isFz, afroz, afrozB, lookupA, lookupH, tops, if_true, if_false, reduceCtorEq, forall_const, ite_true, ite_false, implies_true, walkS, tabS, Tryd.results30, eq_false c1, r0, rstX, rasX, mapC_nil]
  simp (config := { maxSteps := 1000000 }) +decide only [NoH, Old, OldL, nilQ, nilA, asgn, nz, RechL, ReY, isNew, stepO, XPost, postN, XOk, updN, updU, isEff, avalue, aeff, ASt.eval, ASt.put, ASt.set, ASt.new, Nat.reduceDiv, Nat.reduceAdd, Int.reduceToNat, absV, absC, scalar, alen, acap, conc, flats, live, blkOf, aload, rd, part?, afieldAddr, afield, aindexAddr, cellsOf, afill, places, abuild, optI, asliceV, asliceS, szOk, srcCells, aappend, acopy, astore, amakeSlice, abuildSlice, snapL, mapO, treeL, AVal.tree, AVal.flatT, isFlat, ares, isFz, afroz, afrozB, lookupA, lookupH, tops, if_true, if_false, reduceCtorEq, forall_const, ite_true, ite_false, implies_true, walkS, tabS, Tryd.results30, eq_true c1]
  refine callK (den_ValidLevelR least) (by first | exact .inl rfl | exact .inr rfl) ?_
  by_cases c2 : LevOk least
  case neg =>
    obtain ⟨e1, e2⟩ := ad_rng (xs := xs) h1 (fun h : SrvOk server least => c2 h.2)
    rw [e1, e2]
    have c2' : ¬ (-300000 ≤ least ∧ least ≤ 300000) := c2
    simp (config := { maxSteps := 1000000 }) +decide only [NoH, Old, OldL, nilQ, nilA, asgn, nz, RechL, ReY, isNew, stepO, XPost, postN, XOk, updN, updU, isEff, avalue, aeff, ASt.eval, ASt.put, ASt.set, ASt.new, Nat.reduceDiv, Nat.reduceAdd, Int.reduceToNat, absV, absC, scalar, alen, acap, conc, flats, live, blkOf, aload, rd, part?, afieldAddr, afield, aindexAddr, cellsOf, afill, places, abuild, optI, asliceV, asliceS, szOk, srcCells, aappend, acopy, astore, amakeSlice, abuildSlice, snapL, mapO, treeL, AVal.tree, AVal.flatT, isFlat, ares, isFz, afroz, afrozB, lookupA, lookupH, tops, if_true, if_false, reduceCtorEq, forall_const, ite_true, ite_false, implies_true, walkS, tabS, Tryd.results30, eq_false c2', r0, rstX, rasX, mapC_nil]
  have c2' : -300000 ≤ least ∧ least ≤ 300000 := c2
  by_cases c3 : xs.length = lv.length
  case neg =>
    obtain ⟨e1, e2⟩ := ad_st h1 ⟨c1, c2⟩ (fun h : LvsOk lv xs => c3 h.1)
    rw [e1, e2]
    have c3' : ¬ (xs.length : Int) = lv.length := by omega
    simp (config := { maxSteps := 1000000 }) +decide only [NoH, Old, OldL, nilQ, nilA, asgn, nz, RechL, ReY, isNew, stepO, XPost, postN, XOk, updN, updU, isEff, avalue, aeff, ASt.eval, ASt.put, ASt.set, ASt.new, Nat.reduceDiv, Nat.reduceAdd, Int.reduceToNat, absV, absC, scalar, alen, acap, conc, flats, live, blkOf, aload, rd, part?, afieldAddr, afield, aindexAddr, cellsOf, afill, places, abuild, optI, asliceV, asliceS, szOk, srcCells, aappend, acopy, astore, amakeSlice, abuildSlice, snapL, mapO, treeL, AVal.tree, AVal.flatT, isFlat, ares, isFz, afroz, afrozB, lookupA, lookupH, tops, if_true, if_false, reduceCtorEq, forall_const, ite_true, ite_false, implies_true, walkS, tabS, Tryd.results30, c2', eq_false c3, eq_false c3', r0, rstX, rasX, mapC_nil]
  simp (config := { maxSteps := 1000000 }) +decide only [NoH, Old, OldL, nilQ, nilA, asgn, nz, RechL, ReY, isNew, stepO, XPost, postN, XOk, updN, updU, isEff, avalue, aeff, ASt.eval, ASt.put, ASt.set, ASt.new, Nat.reduceDiv, Nat.reduceAdd, Int.reduceToNat, absV, absC, scalar, alen, acap, conc, flats, live, blkOf, aload, rd, part?, afieldAddr, afield, aindexAddr, cellsOf, afill, places, abuild, optI, asliceV, asliceS, szOk, srcCells, aappend, acopy, astore, amakeSlice, abuildSlice, snapL, mapO, treeL, AVal.tree, AVal.flatT, isFlat, ares, isFz, afroz, afrozB, lookupA, lookupH, tops, if_true, if_false, reduceCtorEq, forall_const, ite_true, ite_false, implies_true, walkS, tabS, Tryd.results30, c2', eq_true c3]
  refine callK (den_allWithin xs (-300000) 300000) (by first | exact .inl rfl | exact .inr rfl) ?_
  by_cases h3 : LvsOk lv xs
  case neg =>
    obtain ⟨e1, e2⟩ := ad_st h1 ⟨c1, c2⟩ h3
    rw [e1, e2]
    have h3' : ¬ ∀ x ∈ xs, -300000 ≤ x ∧ x ≤ 300000 := fun h => h3 ⟨c3, h⟩
    simp (config := { maxSteps := 1000000 }) +decide only [NoH, Old, OldL, nilQ, nilA, asgn, nz, RechL, ReY, isNew, stepO, XPost, postN, XOk, updN, updU, isEff, avalue, aeff, ASt.eval, ASt.put, ASt.set, ASt.new, Nat.reduceDiv, Nat.reduceAdd, Int.reduceToNat, absV, absC, scalar, alen, acap, conc, flats, live, blkOf, aload, rd, part?, afieldAddr, afield, aindexAddr, cellsOf, afill, places, abuild, optI, asliceV, asliceS, szOk, srcCells, aappend, acopy, astore, amakeSlice, abuildSlice, snapL, mapO, treeL, AVal.tree, AVal.flatT, isFlat, ares, isFz, afroz, afrozB, lookupA, lookupH, tops, if_true, if_false, reduceCtorEq, forall_const, ite_true, ite_false, implies_true, walkS, tabS, Tryd.results30, eq_false h3', r0, rstX, rasX, mapC_nil]
  obtain ⟨e1, e2⟩ := ad_yes h1 ⟨c1, c2⟩ h3
  rw [e1, e2]
  have h3' : ∀ x ∈ xs, -300000 ≤ x ∧ x ≤ 300000 := h3.2
  have hls : sv.length = lv.length := by omega
  simp (config := { maxSteps := 1000000 }) +decide only [NoH, Old, OldL, nilQ, nilA, asgn, nz, RechL, ReY, isNew, stepO, XPost, postN, XOk, updN, updU, isEff, avalue, aeff, ASt.eval, ASt.put, ASt.set, ASt.new, Nat.reduceDiv, Nat.reduceAdd, Int.reduceToNat, absV, absC, scalar, alen, acap, conc, flats, live, blkOf, aload, rd, part?, afieldAddr, afield, aindexAddr, cellsOf, afill, places, abuild, optI, asliceV, asliceS, szOk, srcCells, aappend, acopy, astore, amakeSlice, abuildSlice, snapL, mapO, treeL, AVal.tree, AVal.flatT, isFlat, ares, isFz, afroz, afrozB, lookupA, lookupH, tops, if_true, if_false, reduceCtorEq, forall_const, ite_true, ite_false, implies_true, walkS, tabS, Tryd.results30, eq_true h3']
  refine callX (denx_Clone sv (by omega)) (by simp (config := { maxSteps := 1000000 }) +decide only [NoH, Old, OldL, nilQ, nilA, asgn, nz, RechL, ReY, isNew, stepO, XPost, postN, XOk, updN, updU, isEff, avalue, aeff, ASt.eval, ASt.put, ASt.set, ASt.new, Nat.reduceDiv, Nat.reduceAdd, Int.reduceToNat, absV, absC, scalar, alen, acap, conc, flats, live, blkOf, aload, rd, part?, afieldAddr, afield, aindexAddr, cellsOf, afill, places, abuild, optI, asliceV, asliceS, szOk, srcCells, aappend, acopy, astore, amakeSlice, abuildSlice, snapL, mapO, treeL, AVal.tree, AVal.flatT, isFlat, ares, isFz, afroz, afrozB, lookupA, lookupH, tops, if_true, if_false, reduceCtorEq, forall_const, ite_true, ite_false, implies_true, walkS, tabS, Tryd.results30]) ?_
  simp (config := { maxSteps := 1000000 }) +decide only [NoH, Old, OldL, nilQ, nilA, asgn, nz, RechL, ReY, isNew, stepO, XPost, postN, XOk, updN, updU, isEff, avalue, aeff, ASt.eval, ASt.put, ASt.set, ASt.new, Nat.reduceDiv, Nat.reduceAdd, Int.reduceToNat, absV, absC, scalar, alen, acap, conc, flats, live, blkOf, aload, rd, part?, afieldAddr, afield, aindexAddr, cellsOf, afill, places, abuild, optI, asliceV, asliceS, szOk, srcCells, aappend, acopy, astore, amakeSlice, abuildSlice, snapL, mapO, treeL, AVal.tree, AVal.flatT, isFlat, ares, isFz, afroz, afrozB, lookupA, lookupH, tops, if_true, if_false, reduceCtorEq, forall_const, ite_true, ite_false, implies_true, walkS, tabS, Tryd.results30]
  refine callX (denx_Clone lv (by omega)) (by simp (config := { maxSteps := 1000000 }) +decide only [NoH, Old, OldL, nilQ, nilA, asgn, nz, RechL, ReY, isNew, stepO, XPost, postN, XOk, updN, updU, isEff, avalue, aeff, ASt.eval, ASt.put, ASt.set, ASt.new, Nat.reduceDiv, Nat.reduceAdd, Int.reduceToNat, absV, absC, scalar, alen, acap, conc, flats, live, blkOf, aload, rd, part?, afieldAddr, afield, aindexAddr, cellsOf, afill, places, abuild, optI, asliceV, asliceS, szOk, srcCells, aappend, acopy, astore, amakeSlice, abuildSlice, snapL, mapO, treeL, AVal.tree, AVal.flatT, isFlat, ares, isFz, afroz, afrozB, lookupA, lookupH, tops, if_true, if_false, reduceCtorEq, forall_const, ite_true, ite_false, implies_true, walkS, tabS, Tryd.results30]) ?_
  simp (config := { maxSteps := 1000000 }) +decide only [NoH, Old, OldL, nilQ, nilA, asgn, nz, RechL, ReY, isNew, stepO, XPost, postN, XOk, updN, updU, isEff, avalue, aeff, ASt.eval, ASt.put, ASt.set, ASt.new, Nat.reduceDiv, Nat.reduceAdd, Int.reduceToNat, absV, absC, scalar, alen, acap, conc, flats, live, blkOf, aload, rd, part?, afieldAddr, afield, aindexAddr, cellsOf, afill, places, abuild, optI, asliceV, asliceS, szOk, srcCells, aappend, acopy, astore, amakeSlice, abuildSlice, snapL, mapO, treeL, AVal.tree, AVal.flatT, isFlat, ares, isFz, afroz, afrozB, lookupA, lookupH, tops, if_true, if_false, reduceCtorEq, forall_const, ite_true, ite_false, implies_true, walkS, tabS, Tryd.results30]
  refine ex_loop (fun k : {k : Nat // k ≤ lv.length} => mk [(1, .i server), (3, .i least), (4, .ptr 4 1 0), (8, .ptr 8 2 0), (48, ints xs), (49, .i xs.length), (50, .i k)] [(4, ⟨1, 5, [.i s, .i w, .i h, .own 42 3 0 sv.length, .own 45 4 0 lv.length]⟩), (8, ⟨2, 5, [.i 0, .i 0, .i 0, .nl, .nl]⟩), (42, ⟨3, 1, mapC AVal.i (adS sv lv xs server least k)⟩), (45, ⟨4, 1, mapC AVal.i (adL sv lv xs least k)⟩)] 5 87) (fun k => lv.length - k) ⟨0, by simp⟩ ?_ ?_
  · refine weak_mk rfl (by first | exact Nat.le_refl _ | (simp only [mk_gen]; omega)) ?_ ?_ <;> simp +decide only [w_lookup_nil, w_lookup_cons, ch_ch, ch_lit, lit_ch, wkT, wkH, wkB, WVL, WV_refl', Int.natCast_zero, Int.natCast_add, Int.natCast_one, Nat.sub_self, Nat.sub_zero, List.replicate_zero, List.take_zero, List.nil_append, List.append_nil, fillC_zero, Nat.reduceDiv, Nat.reduceAdd, upd_bk, bk_at, getB_zero, getB_succ, modB_zero, modB_succ, rows_lit, repB_zero, repB_succ, List.length_cons, List.length_nil, upd_upd_same, upd_apply, mk_tmp, mk_heap, mk_gen, lookupA, lookupH, List.getD_cons_zero, List.getD_cons_succ, init_two, tops, Bool.true_and, and_self, and_true, true_and, true_or, if_true, if_false, ite_true, ite_false, reduceCtorEq, reduceIte, adS, adL, upK_zero]
  · rintro ⟨k, hk⟩
    have g1 : (adS sv lv xs server least k).length = lv.length := by rw [adS, upK_length, hls]
    have g2 : (adL sv lv xs least k).length = lv.length := upK_length
    by_cases klt : k < lv.length
    · have hw : IntKind.i64.wrap ((k : Int) + 1) = ((k + 1 : Nat) : Int) := wrap64 (by omega) (by omega)
      have k1 : k < sv.length := by omega
      have k3 : k < xs.length := by omega
      have hm : lv.length - (k + 1) < lv.length - k := by omega
      have ga : (adS sv lv xs server least k)[k]'(by omega) = sv[k] := upK_at k1
      have gb : (adL sv lv xs least k)[k]'(by omega) = lv[k] := upK_at klt
      have hcd : adC sv lv xs least k ↔ (least ≤ xs[k] ∧ (sv[k] < 0 ∨ lv[k] < xs[k])) := by unfold adC; rw [getD_at k1, getD_at klt, getD_at k3]
      have yes : adC sv lv xs least k → (adS sv lv xs server least k).set k server = adS sv lv xs server least (k + 1) ∧ (adL sv lv xs least k).set k xs[k] = adL sv lv xs least (k + 1) := fun h => by
        have m2 := upK_yes (v := fun i => xs.getD i 0) (a := lv) h
        rw [getD_at k3] at m2
        exact ⟨upK_yes (v := fun _ => server) (a := sv) h, m2⟩
      have no : ¬ adC sv lv xs least k → adS sv lv xs server least (k + 1) = adS sv lv xs server least k ∧ adL sv lv xs least (k + 1) = adL sv lv xs least k := fun h => ⟨upK_no h, upK_no h⟩
      by_cases d1 : least ≤ xs[k]
      · by_cases d2 : sv[k] < 0
        · obtain ⟨m1, m2⟩ := yes (hcd.2 ⟨d1, .inl d2⟩)
          simp (config := { maxSteps := 1000000 }) +decide only [NoH, Old, OldL, nilQ, nilA, asgn, nz, RechL, ReY, isNew, stepO, XPost, postN, XOk, updN, updU, isEff, avalue, aeff, ASt.eval, ASt.put, ASt.set, ASt.new, Nat.reduceDiv, Nat.reduceAdd, Int.reduceToNat, absV, absC, scalar, alen, acap, conc, flats, live, blkOf, aload, rd, part?, afieldAddr, afield, aindexAddr, cellsOf, afill, places, abuild, optI, asliceV, asliceS, szOk, srcCells, aappend, acopy, astore, amakeSlice, abuildSlice, snapL, mapO, treeL, AVal.tree, AVal.flatT, isFlat, ares, isFz, afroz, afrozB, lookupA, lookupH, tops, if_true, if_false, reduceCtorEq, forall_const, ite_true, ite_false, implies_true, walkS, tabS, Tryd.results30, hw, klt, k1, k3, ga, gb, eq_true d1, eq_true d2, g1, g2, hls, c3, m1, m2, mapC_set]
          refine ⟨⟨k + 1, klt⟩, ?_, hm⟩
          refine weak_mk rfl (by first | exact Nat.le_refl _ | (simp only [mk_gen]; omega)) ?_ ?_ <;> simp +decide only [w_lookup_nil, w_lookup_cons, ch_ch, ch_lit, lit_ch, wkT, wkH, wkB, WVL, WV_refl', Int.natCast_zero, Int.natCast_add, Int.natCast_one, Nat.sub_self, Nat.sub_zero, List.replicate_zero, List.take_zero, List.nil_append, List.append_nil, fillC_zero, Nat.reduceDiv, Nat.reduceAdd, upd_bk, bk_at, getB_zero, getB_succ, modB_zero, modB_succ, rows_lit, repB_zero, repB_succ, List.length_cons, List.length_nil, upd_upd_same, upd_apply, mk_tmp, mk_heap, mk_gen, lookupA, lookupH, List.getD_cons_zero, List.getD_cons_succ, init_two, tops, Bool.true_and, and_self, and_true, true_and, true_or, if_true, if_false, ite_true, ite_false, reduceCtorEq, reduceIte, hls, c3]
        · by_cases d3 : lv[k] < xs[k]
          · obtain ⟨m1, m2⟩ := yes (hcd.2 ⟨d1, .inr d3⟩)
            simp (config := { maxSteps := 1000000 }) +decide only [NoH, Old, OldL, nilQ, nilA, asgn, nz, RechL, ReY, isNew, stepO, XPost, postN, XOk, updN, updU, isEff, avalue, aeff, ASt.eval, ASt.put, ASt.set, ASt.new, Nat.reduceDiv, Nat.reduceAdd, Int.reduceToNat, absV, absC, scalar, alen, acap, conc, flats, live, blkOf, aload, rd, part?, afieldAddr, afield, aindexAddr, cellsOf, afill, places, abuild, optI, asliceV, asliceS, szOk, srcCells, aappend, acopy, astore, amakeSlice, abuildSlice, snapL, mapO, treeL, AVal.tree, AVal.flatT, isFlat, ares, isFz, afroz, afrozB, lookupA, lookupH, tops, if_true, if_false, reduceCtorEq, forall_const, ite_true, ite_false, implies_true, walkS, tabS, Tryd.results30, hw, klt, k1, k3, ga, gb, eq_true d1, eq_false d2, eq_true d3, g1, g2, hls, c3, m1, m2, mapC_set]
            refine ⟨⟨k + 1, klt⟩, ?_, hm⟩
            refine weak_mk rfl (by first | exact Nat.le_refl _ | (simp only [mk_gen]; omega)) ?_ ?_ <;> simp +decide only [w_lookup_nil, w_lookup_cons, ch_ch, ch_lit, lit_ch, wkT, wkH, wkB, WVL, WV_refl', Int.natCast_zero, Int.natCast_add, Int.natCast_one, Nat.sub_self, Nat.sub_zero, List.replicate_zero, List.take_zero, List.nil_append, List.append_nil, fillC_zero, Nat.reduceDiv, Nat.reduceAdd, upd_bk, bk_at, getB_zero, getB_succ, modB_zero, modB_succ, rows_lit, repB_zero, repB_succ, List.length_cons, List.length_nil, upd_upd_same, upd_apply, mk_tmp, mk_heap, mk_gen, lookupA, lookupH, List.getD_cons_zero, List.getD_cons_succ, init_two, tops, Bool.true_and, and_self, and_true, true_and, true_or, if_true, if_false, ite_true, ite_false, reduceCtorEq, reduceIte, hls, c3]
          · obtain ⟨m1, m2⟩ := no (fun h => (hcd.1 h).2.elim d2 d3)
            simp (config := { maxSteps := 1000000 }) +decide only [NoH, Old, OldL, nilQ, nilA, asgn, nz, RechL, ReY, isNew, stepO, XPost, postN, XOk, updN, updU, isEff, avalue, aeff, ASt.eval, ASt.put, ASt.set, ASt.new, Nat.reduceDiv, Nat.reduceAdd, Int.reduceToNat, absV, absC, scalar, alen, acap, conc, flats, live, blkOf, aload, rd, part?, afieldAddr, afield, aindexAddr, cellsOf, afill, places, abuild, optI, asliceV, asliceS, szOk, srcCells, aappend, acopy, astore, amakeSlice, abuildSlice, snapL, mapO, treeL, AVal.tree, AVal.flatT, isFlat, ares, isFz, afroz, afrozB, lookupA, lookupH, tops, if_true, if_false, reduceCtorEq, forall_const, ite_true, ite_false, implies_true, walkS, tabS, Tryd.results30, hw, klt, k1, k3, ga, gb, eq_true d1, eq_false d2, eq_false d3, g1, g2, hls, c3]
            refine ⟨⟨k + 1, klt⟩, ?_, hm⟩
            refine weak_mk rfl (by first | exact Nat.le_refl _ | (simp only [mk_gen]; omega)) ?_ ?_ <;> simp +decide only [w_lookup_nil, w_lookup_cons, ch_ch, ch_lit, lit_ch, wkT, wkH, wkB, WVL, WV_refl', Int.natCast_zero, Int.natCast_add, Int.natCast_one, Nat.sub_self, Nat.sub_zero, List.replicate_zero, List.take_zero, List.nil_append, List.append_nil, fillC_zero, Nat.reduceDiv, Nat.reduceAdd, upd_bk, bk_at, getB_zero, getB_succ, modB_zero, modB_succ, rows_lit, repB_zero, repB_succ, List.length_cons, List.length_nil, upd_upd_same, upd_apply, mk_tmp, mk_heap, mk_gen, lookupA, lookupH, List.getD_cons_zero, List.getD_cons_succ, init_two, tops, Bool.true_and, and_self, and_true, true_and, true_or, if_true, if_false, ite_true, ite_false, reduceCtorEq, reduceIte, m1, m2, hls, c3]
      · obtain ⟨m1, m2⟩ := no (fun h => d1 (hcd.1 h).1)
        simp (config := { maxSteps := 1000000 }) +decide only [NoH, Old, OldL, nilQ, nilA, asgn, nz, RechL, ReY, isNew, stepO, XPost, postN, XOk, updN, updU, isEff, avalue, aeff, ASt.eval, ASt.put, ASt.set, ASt.new, Nat.reduceDiv, Nat.reduceAdd, Int.reduceToNat, absV, absC, scalar, alen, acap, conc, flats, live, blkOf, aload, rd, part?, afieldAddr, afield, aindexAddr, cellsOf, afill, places, abuild, optI, asliceV, asliceS, szOk, srcCells, aappend, acopy, astore, amakeSlice, abuildSlice, snapL, mapO, treeL, AVal.tree, AVal.flatT, isFlat, ares, isFz, afroz, afrozB, lookupA, lookupH, tops, if_true, if_false, reduceCtorEq, forall_const, ite_true, ite_false, implies_true, walkS, tabS, Tryd.results30, hw, klt, k1, k3, ga, gb, eq_false d1, g1, g2, hls, c3]
        refine ⟨⟨k + 1, klt⟩, ?_, hm⟩
        refine weak_mk rfl (by first | exact Nat.le_refl _ | (simp only [mk_gen]; omega)) ?_ ?_ <;> simp +decide only [w_lookup_nil, w_lookup_cons, ch_ch, ch_lit, lit_ch, wkT, wkH, wkB, WVL, WV_refl', Int.natCast_zero, Int.natCast_add, Int.natCast_one, Nat.sub_self, Nat.sub_zero, List.replicate_zero, List.take_zero, List.nil_append, List.append_nil, fillC_zero, Nat.reduceDiv, Nat.reduceAdd, upd_bk, bk_at, getB_zero, getB_succ, modB_zero, modB_succ, rows_lit, repB_zero, repB_succ, List.length_cons, List.length_nil, upd_upd_same, upd_apply, mk_tmp, mk_heap, mk_gen, lookupA, lookupH, List.getD_cons_zero, List.getD_cons_succ, init_two, tops, Bool.true_and, and_self, and_true, true_and, true_or, if_true, if_false, ite_true, ite_false, reduceCtorEq, reduceIte, m1, m2, hls, c3]
    · have e : k = lv.length := by omega
      subst e
      have klt' : ¬ lv.length < xs.length := by omega
      have g1' : (adS sv lv xs server least lv.length).length = sv.length := upK_length
      have t1 : List.take sv.length (adS sv lv xs server least lv.length) = adS sv lv xs server least lv.length := List.take_of_length_le (by omega)
      have t2 : List.take lv.length (adL sv lv xs least lv.length) = adL sv lv xs least lv.length := List.take_of_length_le (by omega)
      simp (config := { maxSteps := 1000000 }) +decide only [NoH, Old, OldL, nilQ, nilA, asgn, nz, RechL, ReY, isNew, stepO, XPost, postN, XOk, updN, updU, isEff, avalue, aeff, ASt.eval, ASt.put, ASt.set, ASt.new, Nat.reduceDiv, Nat.reduceAdd, Int.reduceToNat, absV, absC, scalar, alen, acap, conc, flats, live, blkOf, aload, rd, part?, afieldAddr, afield, aindexAddr, cellsOf, afill, places, abuild, optI, asliceV, asliceS, szOk, srcCells, aappend, acopy, astore, amakeSlice, abuildSlice, snapL, mapO, treeL, AVal.tree, AVal.flatT, isFlat, ares, isFz, afroz, afrozB, lookupA, lookupH, tops, if_true, if_false, reduceCtorEq, forall_const, ite_true, ite_false, implies_true, walkS, tabS, Tryd.results30, klt', g1', g2, t1, t2, rstX, rasX]
end Go.Proofs.YtiaemddmkmfijaaDoor
