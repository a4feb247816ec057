/-
  OWN WORK: what FnServers asks: servers at points, merges and additions as plain calls.
  OWN WORK: merged rasters and added sectors, plain.
-/
import Derived.Test.YtiaemddmkmfijaaDoorRaG
import Derived.Test.YtiaemddmkmfijaaDoorRaP
import Derived.Test.YtiaemddmkmfijaaDoorRaR
import Derived.Test.YtiaemddmkmfijaaDoorSvA
import Derived.Test.YtiaemddmkmfijaaDoorSvD
import Derived.Test.YtiaemddmkmfijaaDoorB10
namespace Go.Proofs.YtiaemddmkmfijaaDoor
open Go Go.Own Go.Proofs
set_option maxHeartbeats 4000000
set_option maxRecDepth 20000
set_option linter.unusedSimpArgs false
set_option linter.unusedVariables false
theorem cnt_none {p : Nat → Prop} : ∀ k : Nat, (∀ i, i < k → ¬ p i) → cnt p k = 0
  | 0, _ => rfl
  | k + 1, h => by rw [cnt_no (h k (by omega)), cnt_none k fun i hi => h i (by omega)]
section
variable {s w h : Int} {a la b lb : List Int}
/-- merged servers and levels -/
def mgS (a b la lb : List Int) : List Int := mgK a b la lb la.length
def mgL (la lb : List Int) : List Int := mgK la lb la lb la.length
theorem mg_at {i : Nat} (l1 : a.length = la.length) (hi : i < la.length) : (la.getD i 0 < lb.getD i 0 ∧ (mgS a b la lb).getD i 0 = b.getD i 0 ∧ (mgL la lb).getD i 0 = lb.getD i 0) ∨ (¬ la.getD i 0 < lb.getD i 0 ∧ (mgS a b la lb).getD i 0 = a.getD i 0 ∧ (mgL la lb).getD i 0 = la.getD i 0) := by
  have hi2 : i < a.length := by omega
  have e1 : (mgS a b la lb).getD i 0 = if la.getD i 0 < lb.getD i 0 then b.getD i 0 else a.getD i 0 := by
    unfold mgS mgK
    simp [List.getD, hi2, hi]
  have e2 : (mgL la lb).getD i 0 = if la.getD i 0 < lb.getD i 0 then lb.getD i 0 else la.getD i 0 := by
    unfold mgL mgK
    simp [List.getD, hi]
  rw [e1, e2]
  by_cases c : la.getD i 0 < lb.getD i 0
  · rw [if_pos c, if_pos c]
    exact .inl ⟨c, rfl, rfl⟩
  · rw [if_neg c, if_neg c]
    exact .inr ⟨c, rfl, rfl⟩
theorem cell_at {i : Nat} (h1 : OkRas s w h a la) (hi : i < la.length) : CellOk (a.getD i 0) (la.getD i 0) := by
  have hi2 : i < a.length := by have := h1.2.2.1; omega
  have := h1.2.2.2 i hi2 hi
  simpa [List.getD, hi, hi2] using this
theorem mgS_len : (mgS a b la lb).length = a.length := mgK_length
theorem mgL_len : (mgL la lb).length = la.length := mgK_length
theorem ok_of (hz : Sized s w h) (l1 : (a.length : Int) = w * h) (l2 : la.length = a.length) (hc : ∀ i, i < la.length → CellOk (a.getD i 0) (la.getD i 0)) : OkRas s w h a la :=
  ⟨hz, l1, l2, fun i h1 h2 => by have := hc i h2; simpa [List.getD, h1, h2] using this⟩
theorem mg_ok (h1 : OkRas s w h a la) (h2 : OkRas s w h b lb) : OkRas s w h (mgS a b la lb) (mgL la lb) := by
  have e1 := h1.2.2.1
  have e2 := h1.2.1
  have e3 := h2.2.1
  have e4 := h2.2.2.1
  refine ok_of h1.1 (by rw [mgS_len]; exact e2) (by rw [mgS_len, mgL_len]; exact e1) fun i hi => ?_
  rw [mgL_len] at hi
  rcases mg_at (b := b) (lb := lb) (a := a) (by omega) hi with ⟨_, q1, q2⟩ | ⟨_, q1, q2⟩
  · rw [q1, q2]
    exact cell_at h2 (by omega)
  · rw [q1, q2]
    exact cell_at h1 hi
theorem mg_again (l1 : a.length = la.length) : mgS (mgS a b la lb) a (mgL la lb) la = mgS a b la lb ∧ mgL (mgL la lb) la = mgL la lb := by
  have no : ∀ i, i < la.length → ¬ (mgL la lb).getD i 0 < la.getD i 0 := fun i hi => by
    rcases mg_at (b := b) (lb := lb) (a := a) l1 hi with ⟨q0, _, q2⟩ | ⟨_, _, q2⟩ <;> omega
  constructor
  · refine List.ext_getElem (by rw [mgS_len]) fun i p q => ?_
    have hi : i < la.length := by rw [mgS_len, mgS_len] at p; omega
    rcases mg_at (a := mgS a b la lb) (b := a) (la := mgL la lb) (lb := la) (i := i) (by rw [mgS_len, mgL_len]; exact l1) (by rw [mgL_len]; exact hi) with ⟨q0, _⟩ | ⟨_, q1, _⟩
    · exact absurd q0 (no i hi)
    · simpa [List.getD, p, q] using q1
  · refine List.ext_getElem (by rw [mgL_len]) fun i p q => ?_
    have hi : i < la.length := by rw [mgL_len, mgL_len] at p; omega
    rcases mg_at (a := mgS a b la lb) (b := a) (la := mgL la lb) (lb := la) (i := i) (by rw [mgS_len, mgL_len]; exact l1) (by rw [mgL_len]; exact hi) with ⟨q0, _⟩ | ⟨_, _, q1⟩
    · exact absurd q0 (no i hi)
    · simpa [List.getD, p, q] using q1
theorem mg_lost (h1 : OkRas s w h a la) (h2 : OkRas s w h b lb) : cnt (at2 a (mgS a b la lb) la (mgL la lb) qL) a.length = 0 ∧ cnt (at2 a (mgS a b la lb) la (mgL la lb) qW) a.length = 0 ∧ cnt (at2 b (mgS a b la lb) lb (mgL la lb) qW) b.length = 0 := by
  have e1 := h1.2.2.1
  have e2 := h1.2.1
  have e3 := h2.2.1
  have e4 := h2.2.2.1
  refine ⟨cnt_none _ fun i hi => ?_, cnt_none _ fun i hi => ?_, cnt_none _ fun i hi => ?_⟩
  · intro hq
    obtain ⟨p, q⟩ : 0 ≤ a.getD i 0 ∧ ¬ 0 ≤ (mgS a b la lb).getD i 0 := hq
    have cb := cell_at h2 (i := i) (by omega)
    have ca := cell_at h1 (i := i) (by omega)
    rcases mg_at (b := b) (la := la) (lb := lb) (a := a) (i := i) (by omega) (by omega) with ⟨q0, q1, _⟩ | ⟨_, q1, _⟩
    · rw [q1] at q
      have := cb.2.2 (by omega)
      have := ca.2.1
      omega
    · omega
  · intro hq
    obtain ⟨_, q⟩ : (0 ≤ a.getD i 0 ∧ 0 ≤ (mgS a b la lb).getD i 0) ∧ (mgL la lb).getD i 0 < la.getD i 0 := hq
    rcases mg_at (b := b) (la := la) (lb := lb) (a := a) (i := i) (by omega) (by omega) with ⟨q0, _, q2⟩ | ⟨_, _, q2⟩ <;> omega
  · intro hq
    obtain ⟨_, q⟩ : (0 ≤ b.getD i 0 ∧ 0 ≤ (mgS a b la lb).getD i 0) ∧ (mgL la lb).getD i 0 < lb.getD i 0 := hq
    rcases mg_at (b := b) (la := la) (lb := lb) (a := a) (i := i) (by omega) (by omega) with ⟨q0, _, q2⟩ | ⟨_, _, q2⟩ <;> omega
end
section
variable {s w h server least : Int} {sv lv xs : List Int}
theorem ad_at {i : Nat} (l1 : sv.length = lv.length) (hi : i < lv.length) : (adC sv lv xs least i ∧ (adS sv lv xs server least lv.length).getD i 0 = server ∧ (adL sv lv xs least lv.length).getD i 0 = xs.getD i 0) ∨ (¬ adC sv lv xs least i ∧ (adS sv lv xs server least lv.length).getD i 0 = sv.getD i 0 ∧ (adL sv lv xs least lv.length).getD i 0 = lv.getD i 0) := by
  have hi2 : i < sv.length := by omega
  have g1 := upK_get (c := adC sv lv xs least) (v := fun _ => server) (a := sv) (k := lv.length) hi2
  have g2 := upK_get (c := adC sv lv xs least) (v := fun i => xs.getD i 0) (a := lv) (k := lv.length) hi
  have e1 : (adS sv lv xs server least lv.length).getD i 0 = if bp (i < lv.length ∧ adC sv lv xs least i) then server else sv[i] := by
    rw [← g1]
    have : i < (upK (adC sv lv xs least) (fun _ => server) sv lv.length).length := by rw [upK_length]; exact hi2
    exact getD_at this
  have e2 : (adL sv lv xs least lv.length).getD i 0 = if bp (i < lv.length ∧ adC sv lv xs least i) then xs.getD i 0 else lv[i] := by
    rw [← g2]
    have : i < (upK (adC sv lv xs least) (fun i => xs.getD i 0) lv lv.length).length := by rw [upK_length]; exact hi
    exact getD_at this
  have s1 : sv.getD i 0 = sv[i] := by simp [List.getD, hi2]
  have s2 : lv.getD i 0 = lv[i] := by simp [List.getD, hi]
  rw [e1, e2, s1, s2]
  by_cases c : adC sv lv xs least i
  · have b : bp (i < lv.length ∧ adC sv lv xs least i) = true := by rw [bp_true]; exact ⟨hi, c⟩
    rw [if_pos b, if_pos b]
    exact .inl ⟨c, rfl, rfl⟩
  · have b : ¬ bp (i < lv.length ∧ adC sv lv xs least i) = true := by rw [bp_true]; exact fun h => c h.2
    rw [if_neg b, if_neg b]
    exact .inr ⟨c, rfl, rfl⟩
theorem adS_len : (adS sv lv xs server least lv.length).length = sv.length := upK_length
theorem adL_len : (adL sv lv xs least lv.length).length = lv.length := upK_length
theorem ad_ok (h1 : OkRas s w h sv lv) (h2 : SrvOk server least) (h3 : LvsOk lv xs) : OkRas s w h (adS sv lv xs server least lv.length) (adL sv lv xs least lv.length) := by
  have e1 := h1.2.2.1
  have e2 := h1.2.1
  refine ok_of h1.1 (by rw [adS_len]; exact e2) (by rw [adS_len, adL_len]; exact e1) fun i hi => ?_
  rw [adL_len] at hi
  rcases ad_at (sv := sv) (xs := xs) (server := server) (least := least) (by omega) hi with ⟨_, q1, q2⟩ | ⟨_, q1, q2⟩
  · rw [q1, q2]
    have hx : i < xs.length := by have := h3.1; omega
    have x1 : xs.getD i 0 = xs[i] := by simp [List.getD, hx]
    have x2 := h3.2 _ (List.getElem_mem hx)
    have h4 := h2.1
    rw [x1]
    exact ⟨⟨by omega, by omega⟩, x2, fun k => by omega⟩
  · rw [q1, q2]
    exact cell_at h1 hi
theorem ad_lost (h1 : OkRas s w h sv lv) (h2 : SrvOk server least) : cnt (at2 sv (adS sv lv xs server least lv.length) lv (adL sv lv xs least lv.length) qL) sv.length = 0 ∧ cnt (at2 sv (adS sv lv xs server least lv.length) lv (adL sv lv xs least lv.length) qW) sv.length = 0 := by
  have e1 := h1.2.2.1
  have h4 := h2.1
  refine ⟨cnt_none _ fun i hi => ?_, cnt_none _ fun i hi => ?_⟩
  · intro hq
    obtain ⟨p, q⟩ : 0 ≤ sv.getD i 0 ∧ ¬ 0 ≤ (adS sv lv xs server least lv.length).getD i 0 := hq
    rcases ad_at (sv := sv) (lv := lv) (xs := xs) (server := server) (least := least) (i := i) (by omega) (by omega) with ⟨_, q1, _⟩ | ⟨_, q1, _⟩ <;> omega
  · intro hq
    obtain ⟨⟨p, _⟩, q⟩ : (0 ≤ sv.getD i 0 ∧ 0 ≤ (adS sv lv xs server least lv.length).getD i 0) ∧ (adL sv lv xs least lv.length).getD i 0 < lv.getD i 0 := hq
    rcases ad_at (sv := sv) (lv := lv) (xs := xs) (server := server) (least := least) (i := i) (by omega) (by omega) with ⟨c, _, q2⟩ | ⟨_, _, q2⟩
    · unfold adC at c
      omega
    · omega
end
theorem den_iMerge (s w h : Int) (sv lv : List Int) (s' w' h' : Int) (sv' lv' : List Int) : Den Tryd.prog 26 [rasV s w h sv lv, rasV s' w' h' sv' lv'] (.tup [rstV (mgR s w h sv lv s' w' h' sv' lv'), .i (mgC s w h sv lv s' w' h' sv' lv')]) := by
  have h0 : DenX Tryd.prog 26 ([rasV s w h sv lv, rasV s' w' h' sv' lv'].map XT.v) _ _ := denx_implMergeRasters s w h sv lv s' w' h' sv' lv'
  exact h0.den (by simp only [treeL, AVal.tree, treeL_i, Bool.and_self, Bool.and_true]) (by simp only [XT.freeze, freezeL, freezeL_i]) (by simp only [treeL, AVal.tree, treeL_i, Bool.and_self, Bool.and_true])
theorem den_iAdd (s w h : Int) (sv lv : List Int) (server : Int) (xs : List Int) (least : Int) : Den Tryd.prog 30 [rasV s w h sv lv, .i server, ints xs, .i least] (.tup [rstV (adR s w h sv lv server xs least), .i (adE s w h sv lv server xs least)]) := by
  have h0 : DenX Tryd.prog 30 ([rasV s w h sv lv, .i server, ints xs, .i least].map XT.v) _ _ := denx_implAddServer s w h sv lv server xs least
  exact h0.den (by simp only [treeL, AVal.tree, treeL_i, Bool.and_self, Bool.and_true]) (by simp only [XT.freeze, freezeL, freezeL_i]) (by simp only [treeL, AVal.tree, treeL_i, Bool.and_self, Bool.and_true])
theorem den_SameRas (s w h : Int) (sv lv : List Int) : Den Tryd.prog 28 [rasV s w h sv lv, rasV s w h sv lv] (.b true) := by
  have y : s = s ∧ w = w ∧ h = h := ⟨rfl, rfl, rfl⟩
  refine den_of_awpG (ghs [] [2, 3]) Tryd.func28 rfl (by kernel_rfl) (Nat.le_of_ble_eq_true rfl) (by simp only [treeL, AVal.tree, treeL_i, treeL_ints, treeL_u8, treeL_append, Bool.and_self, Bool.and_true, Bool.true_and]) (by first | rfl | simp only [treeL, AVal.tree, treeL_i, treeL_ints, treeL_u8, treeL_append, Bool.and_self, Bool.and_true, Bool.true_and]) mixed (by kernel_rfl) fun hl => ?_
  simp only [lensL, lens, lensL_i, lensL_mapC, maxI, and_true, true_and] at hl
  rw [Tryd.ntmps28]
  refine ex_start ?_
  simp (config := { maxSteps := 1000000 }) +decide only [NoH, Old, OldL, nilQ, nilA, asgn, nz, RechL, ReY, isNew, stepO, XPost, postN, XOk, updN, updU, isEff, avalue, aeff, ASt.eval, ASt.put, ASt.set, ASt.new, Nat.reduceDiv, Nat.reduceAdd, Int.reduceToNat, absV, absC, scalar, alen, acap, conc, flats, live, blkOf, aload, rd, part?, afieldAddr, afield, aindexAddr, cellsOf, afill, places, abuild, optI, asliceV, asliceS, szOk, srcCells, aappend, acopy, astore, amakeSlice, abuildSlice, snapL, mapO, treeL, AVal.tree, AVal.flatT, isFlat, ares, isFz, afroz, afrozB, lookupA, lookupH, tops, if_true, if_false, reduceCtorEq, forall_const, ite_true, ite_false, implies_true, walkS, tabS, Tryd.results28]
  refine callK (den_sameSize' s w h sv lv s w h sv lv) (by first | exact .inl rfl | exact .inr rfl) ?_
  simp (config := { maxSteps := 1000000 }) +decide only [NoH, Old, OldL, nilQ, nilA, asgn, nz, RechL, ReY, isNew, stepO, XPost, postN, XOk, updN, updU, isEff, avalue, aeff, ASt.eval, ASt.put, ASt.set, ASt.new, Nat.reduceDiv, Nat.reduceAdd, Int.reduceToNat, absV, absC, scalar, alen, acap, conc, flats, live, blkOf, aload, rd, part?, afieldAddr, afield, aindexAddr, cellsOf, afill, places, abuild, optI, asliceV, asliceS, szOk, srcCells, aappend, acopy, astore, amakeSlice, abuildSlice, snapL, mapO, treeL, AVal.tree, AVal.flatT, isFlat, ares, isFz, afroz, afrozB, lookupA, lookupH, tops, if_true, if_false, reduceCtorEq, forall_const, ite_true, ite_false, implies_true, walkS, tabS, Tryd.results28, eq_true y]
  refine callK (den_Equal sv sv) (by first | exact .inl rfl | exact .inr rfl) ?_
  simp (config := { maxSteps := 1000000 }) +decide only [NoH, Old, OldL, nilQ, nilA, asgn, nz, RechL, ReY, isNew, stepO, XPost, postN, XOk, updN, updU, isEff, avalue, aeff, ASt.eval, ASt.put, ASt.set, ASt.new, Nat.reduceDiv, Nat.reduceAdd, Int.reduceToNat, absV, absC, scalar, alen, acap, conc, flats, live, blkOf, aload, rd, part?, afieldAddr, afield, aindexAddr, cellsOf, afill, places, abuild, optI, asliceV, asliceS, szOk, srcCells, aappend, acopy, astore, amakeSlice, abuildSlice, snapL, mapO, treeL, AVal.tree, AVal.flatT, isFlat, ares, isFz, afroz, afrozB, lookupA, lookupH, tops, if_true, if_false, reduceCtorEq, forall_const, ite_true, ite_false, implies_true, walkS, tabS, Tryd.results28]
  refine callK (den_Equal lv lv) (by first | exact .inl rfl | exact .inr rfl) ?_
  simp (config := { maxSteps := 1000000 }) +decide only [NoH, Old, OldL, nilQ, nilA, asgn, nz, RechL, ReY, isNew, stepO, XPost, postN, XOk, updN, updU, isEff, avalue, aeff, ASt.eval, ASt.put, ASt.set, ASt.new, Nat.reduceDiv, Nat.reduceAdd, Int.reduceToNat, absV, absC, scalar, alen, acap, conc, flats, live, blkOf, aload, rd, part?, afieldAddr, afield, aindexAddr, cellsOf, afill, places, abuild, optI, asliceV, asliceS, szOk, srcCells, aappend, acopy, astore, amakeSlice, abuildSlice, snapL, mapO, treeL, AVal.tree, AVal.flatT, isFlat, ares, isFz, afroz, afrozB, lookupA, lookupH, tops, if_true, if_false, reduceCtorEq, forall_const, ite_true, ite_false, implies_true, walkS, tabS, Tryd.results28]
/-- a grid point -/
structure GpR (s : Int) (n m : Nat) (sv lv : List Int) (x y : Int) (j : Nat) : Prop where
  ej : y * n + x = j
  jh : j < sv.length
  jc : j < lv.length
  px : IntKind.i64.wrap (x * s) = x * s
  py : IntKind.i64.wrap (y * s) = y * s
  x0 : 0 ≤ x * s ∧ x * s ≤ ((n : Int) - 1) * s
  y0 : 0 ≤ y * s ∧ y * s ≤ ((m : Int) - 1) * s
  b1 : ((n : Int) - 1) * s ≤ 200000
  b2 : ((m : Int) - 1) * s ≤ 200000
  w1 : IntKind.i64.wrap (y * n) = y * n
  w2 : IntKind.i64.wrap (y * n + x) = j
theorem gp_ras {s : Int} {n m : Nat} {sv lv : List Int} (hT : OkRas s n m sv lv) {x y : Int} (hx : 0 ≤ x ∧ x ≤ (n : Int) - 1) (hy : 0 ≤ y ∧ y ≤ (m : Int) - 1) : ∃ j, GpR s n m sv lv x y j := by
  obtain ⟨⟨s1, s2, s3, s4, s5⟩, l1, l2, _⟩ := hT
  have a1 := Int.mul_nonneg hx.1 (show 0 ≤ s by omega)
  have a2 := Int.mul_nonneg hy.1 (show 0 ≤ s by omega)
  have a3 := Int.mul_le_mul_of_nonneg_right hx.2 (show 0 ≤ s by omega)
  have a4 := Int.mul_le_mul_of_nonneg_right hy.2 (show 0 ≤ s by omega)
  have a5 := Int.mul_nonneg hy.1 (show (0 : Int) ≤ n by omega)
  have a6 := Int.mul_le_mul_of_nonneg_right hy.2 (show (0 : Int) ≤ n by omega)
  have e6 : ((m : Int) - 1) * n = (n : Int) * m - n := by grind
  obtain ⟨j, ej⟩ : ∃ j : Nat, y * n + x = j := ⟨(y * n + x).toNat, by omega⟩
  have nm := Int.mul_le_mul (a := (n : Int)) (b := (m : Int)) (c := 24) (d := 24) s2.2 s3.2 (by omega) (by omega)
  exact ⟨j, ej, by omega, by omega, wrap64 (by omega) (by omega), wrap64 (by omega) (by omega), ⟨a1, a3⟩, ⟨a2, a4⟩, s4, s5, wrap64 (by omega) (by omega), (wrap64 (by omega) (by omega)).trans ej⟩
theorem half_div {s x : Int} (hs : 1 ≤ s) : (2 * (x * s) + s) / (2 * s) = x := by
  have e : 2 * (x * s) + s = s + x * (2 * s) := by grind
  rw [e, Int.add_mul_ediv_right _ _ (by omega), Int.ediv_eq_zero_of_lt (by omega) (by omega)]
  omega
theorem den_ServerAt {s : Int} {n m : Nat} {sv lv : List Int} (hT : OkRas s n m sv lv) {x y : Int} (hx : 0 ≤ x ∧ x ≤ (n : Int) - 1) (hy : 0 ≤ y ∧ y ≤ (m : Int) - 1) {j : Nat} (g : GpR s n m sv lv x y j) : Den Tryd.prog 32 [rasV s n m sv lv, .agg [.i (x * s), .i (y * s)]] (.tup [.i (sv.getD j 0), .i (lv.getD j 0), .i 0]) := by
  have s1 := hT.1.1
  have s2 := hT.1.2.1
  have s3 := hT.1.2.2.1
  have z0 := g.x0
  have z1 := g.y0
  have z2 := g.b1
  have z3 := g.b2
  have st := step_bound s1 s2
  have st2 := step_bound s1 s3
  have w2s : IntKind.i64.wrap (2 * s) = 2 * s := wrap64 (by omega) (by omega)
  have s20 : 2 * s ≠ 0 := by omega
  have u1 : IntKind.i64.wrap (2 * (y * s)) = 2 * (y * s) := wrap64 (by omega) (by omega)
  have u2 : IntKind.i64.wrap (2 * (y * s) + s) = 2 * (y * s) + s := wrap64 (by omega) (by omega)
  have u3 : (2 * (y * s) + s).tdiv (2 * s) = y := by rw [Int.tdiv_eq_ediv_of_nonneg (by omega)]; exact half_div s1.1
  have u4 : IntKind.i64.wrap y = y := wrap64 (by omega) (by omega)
  have v1 : IntKind.i64.wrap (2 * (x * s)) = 2 * (x * s) := wrap64 (by omega) (by omega)
  have v2 : IntKind.i64.wrap (2 * (x * s) + s) = 2 * (x * s) + s := wrap64 (by omega) (by omega)
  have v3 : (2 * (x * s) + s).tdiv (2 * s) = x := by rw [Int.tdiv_eq_ediv_of_nonneg (by omega)]; exact half_div s1.1
  have v4 : IntKind.i64.wrap x = x := wrap64 (by omega) (by omega)
  have jI : (j : Int) < (sv.length : Int) := by have := g.jh; omega
  have jI2 : (j : Int) < (lv.length : Int) := by have := g.jc; omega
  have c1 : (mapC AVal.i sv)[j]? = some (.i (sv.getD j 0)) := by have := g.jh; simp [mapC, List.getD, this]
  have c2 : (mapC AVal.i lv)[j]? = some (.i (lv.getD j 0)) := by have := g.jc; simp [mapC, List.getD, this]
  refine den_of_awpG (ghs [] [2, 3]) Tryd.func32 rfl (by kernel_rfl) (Nat.le_of_ble_eq_true rfl) (by simp only [treeL, AVal.tree, treeL_i, treeL_ints, treeL_u8, treeL_append, Bool.and_self, Bool.and_true, Bool.true_and]) (by first | rfl | simp only [treeL, AVal.tree, treeL_i, treeL_ints, treeL_u8, treeL_append, Bool.and_self, Bool.and_true, Bool.true_and]) mixed (by kernel_rfl) fun hl => ?_
  simp only [lensL, lens, lensL_i, lensL_mapC, maxI, and_true, true_and] at hl
  rw [Tryd.ntmps32]
  refine ex_start ?_
  simp (config := { maxSteps := 1000000 }) +decide only [NoH, Old, OldL, nilQ, nilA, asgn, nz, RechL, ReY, isNew, stepO, XPost, postN, XOk, updN, updU, isEff, avalue, aeff, ASt.eval, ASt.put, ASt.set, ASt.new, Nat.reduceDiv, Nat.reduceAdd, Int.reduceToNat, absV, absC, scalar, alen, acap, conc, flats, live, blkOf, aload, rd, part?, afieldAddr, afield, aindexAddr, cellsOf, afill, places, abuild, optI, asliceV, asliceS, szOk, srcCells, aappend, acopy, astore, amakeSlice, abuildSlice, snapL, mapO, treeL, AVal.tree, AVal.flatT, isFlat, ares, isFz, afroz, afrozB, lookupA, lookupH, tops, if_true, if_false, reduceCtorEq, forall_const, ite_true, ite_false, implies_true, walkS, tabS, Tryd.results32]
  refine callK (den_ValidRaster s n m sv lv) (by first | exact .inl rfl | exact .inr rfl) ?_
  simp (config := { maxSteps := 1000000 }) +decide only [NoH, Old, OldL, nilQ, nilA, asgn, nz, RechL, ReY, isNew, stepO, XPost, postN, XOk, updN, updU, isEff, avalue, aeff, ASt.eval, ASt.put, ASt.set, ASt.new, Nat.reduceDiv, Nat.reduceAdd, Int.reduceToNat, absV, absC, scalar, alen, acap, conc, flats, live, blkOf, aload, rd, part?, afieldAddr, afield, aindexAddr, cellsOf, afill, places, abuild, optI, asliceV, asliceS, szOk, srcCells, aappend, acopy, astore, amakeSlice, abuildSlice, snapL, mapO, treeL, AVal.tree, AVal.flatT, isFlat, ares, isFz, afroz, afrozB, lookupA, lookupH, tops, if_true, if_false, reduceCtorEq, forall_const, ite_true, ite_false, implies_true, walkS, tabS, Tryd.results32, eq_true hT, st.1, st.2]
  refine callK (den_within (x * s) 0 (((n : Int) - 1) * s)) (by first | exact .inl rfl | exact .inr rfl) ?_
  simp (config := { maxSteps := 1000000 }) +decide only [NoH, Old, OldL, nilQ, nilA, asgn, nz, RechL, ReY, isNew, stepO, XPost, postN, XOk, updN, updU, isEff, avalue, aeff, ASt.eval, ASt.put, ASt.set, ASt.new, Nat.reduceDiv, Nat.reduceAdd, Int.reduceToNat, absV, absC, scalar, alen, acap, conc, flats, live, blkOf, aload, rd, part?, afieldAddr, afield, aindexAddr, cellsOf, afill, places, abuild, optI, asliceV, asliceS, szOk, srcCells, aappend, acopy, astore, amakeSlice, abuildSlice, snapL, mapO, treeL, AVal.tree, AVal.flatT, isFlat, ares, isFz, afroz, afrozB, lookupA, lookupH, tops, if_true, if_false, reduceCtorEq, forall_const, ite_true, ite_false, implies_true, walkS, tabS, Tryd.results32, eq_true g.x0, st2.1, st2.2]
  refine callK (den_within (y * s) 0 (((m : Int) - 1) * s)) (by first | exact .inl rfl | exact .inr rfl) ?_
  simp (config := { maxSteps := 1000000 }) +decide only [NoH, Old, OldL, nilQ, nilA, asgn, nz, RechL, ReY, isNew, stepO, XPost, postN, XOk, updN, updU, isEff, avalue, aeff, ASt.eval, ASt.put, ASt.set, ASt.new, Nat.reduceDiv, Nat.reduceAdd, Int.reduceToNat, absV, absC, scalar, alen, acap, conc, flats, live, blkOf, aload, rd, part?, afieldAddr, afield, aindexAddr, cellsOf, afill, places, abuild, optI, asliceV, asliceS, szOk, srcCells, aappend, acopy, astore, amakeSlice, abuildSlice, snapL, mapO, treeL, AVal.tree, AVal.flatT, isFlat, ares, isFz, afroz, afrozB, lookupA, lookupH, tops, if_true, if_false, reduceCtorEq, forall_const, ite_true, ite_false, implies_true, walkS, tabS, Tryd.results32, eq_true g.y0, sem_quo, w2s, s20, u1, u2, u3, u4, v1, v2, v3, v4, g.w1, g.w2, jI, jI2, g.jh, g.jc, c1, c2]
end Go.Proofs.YtiaemddmkmfijaaDoor
