/-
  OWN WORK: powers back from logarithms; outages by fading; outages in series and in parallel.
-/
import Derived.Test.YtiaemddmkmfijaaGreatDoorDbE
namespace Go.Proofs.YtiaemddmkmfijaaGreatDoor
open Go Go.Own Go.Proofs
set_option maxHeartbeats 4000000
set_option maxRecDepth 20000
set_option linter.unusedSimpArgs false
set_option linter.unusedVariables false
/-- the least number whose logarithm reaches v, or the greatest number looked at -/
def IsPw (v k : Int) : Prop := (1 ≤ k ∧ k ≤ 1000000000000000000) ∧ (∀ n, 1 ≤ n → n < k → lgI n < v) ∧ (k = 1000000000000000000 ∨ v ≤ lgI k)
theorem pw_ex (v : Int) : ∃ k, IsPw v k := by
  obtain ⟨r, h1, h2, h3⟩ := fst_ex (fun i => v ≤ lgI (1 + i)) 999999999999999999
  refine ⟨1 + r, ⟨by omega, by omega⟩, fun n n1 n2 => ?_, ?_⟩
  · have this : ¬ v ≤ lgI (1 + ((n - 1).toNat : Int)) := h2 (n - 1).toNat (by omega)
    rw [show (1 : Int) + ((n - 1).toNat : Int) = n by omega] at this
    omega
  · by_cases c : r < 999999999999999999
    · exact .inr (h3 c)
    · exact .inl (by omega)
noncomputable def pw (v : Int) : Int := (pw_ex v).choose
theorem pw_is (v : Int) : IsPw v (pw v) := (pw_ex v).choose_spec
theorem pw_mono' {v w k m : Int} (h1 : IsPw v k) (h2 : IsPw w m) (h : v ≤ w) : k ≤ m := by
  refine Classical.byContradiction fun c => ?_
  obtain ⟨⟨a1, a2⟩, a3, a4⟩ := h1
  obtain ⟨⟨b1, b2⟩, b3, b4⟩ := h2
  have := a3 m b1 (by omega)
  rcases b4 with b4 | b4 <;> omega
theorem pw_mono {v w : Int} (h : v ≤ w) : pw v ≤ pw w := pw_mono' (pw_is v) (pw_is w) h
theorem pw_unique {v k : Int} (h : IsPw v k) : k = pw v := by
  have := pw_mono' h (pw_is v) (Int.le_refl _)
  have := pw_mono' (pw_is v) h (Int.le_refl _)
  omega
theorem den_PowDb (v : Int) (hv : 0 ≤ v ∧ v ≤ 180000) : Den Tryz.prog 164 [.i v] (.i (pw v)) := by
  refine den_of_awp Tryz.func164 rfl (by kernel_rfl) (Nat.le_of_ble_eq_true rfl) (by simp only [treeL, AVal.tree, treeL_i, treeL_ints, treeL_u8, treeL_append, Bool.and_self, Bool.and_true, Bool.true_and]) (by first | rfl | simp only [treeL, AVal.tree, treeL_i, treeL_ints, treeL_u8, treeL_append, Bool.and_self, Bool.and_true, Bool.true_and]) mixed (by kernel_rfl) fun hl => ?_
  simp only [lensL, lens, lensL_i, lensL_mapC, maxI, and_true, true_and] at hl
  rw [Tryz.ntmps164]
  refine ex_start ?_
  simp (config := { maxSteps := 1000000 }) +decide only [NoH, Old, OldL, nilQ, nilA, asgn, nz, RechL, ReY, isNew, stepO, XPost, postN, XOk, updN, updU, isEff, avalue, aeff, ASt.eval, ASt.put, ASt.set, ASt.new, Nat.reduceDiv, Nat.reduceAdd, Int.reduceToNat, absV, absC, scalar, alen, acap, conc, flats, live, blkOf, aload, rd, part?, afieldAddr, afield, aindexAddr, cellsOf, afill, places, abuild, optI, asliceV, asliceS, szOk, srcCells, aappend, acopy, astore, amakeSlice, abuildSlice, snapL, mapO, treeL, AVal.tree, AVal.flatT, isFlat, ares, isFz, afroz, afrozB, lookupA, lookupH, tops, if_true, if_false, reduceCtorEq, forall_const, ite_true, ite_false, implies_true, walkS, tabS, Tryz.results164]
  refine callK (den_within v 0 180000) (by first | exact .inl rfl | exact .inr rfl) ?_
  simp (config := { maxSteps := 1000000 }) +decide only [NoH, Old, OldL, nilQ, nilA, asgn, nz, RechL, ReY, isNew, stepO, XPost, postN, XOk, updN, updU, isEff, avalue, aeff, ASt.eval, ASt.put, ASt.set, ASt.new, Nat.reduceDiv, Nat.reduceAdd, Int.reduceToNat, absV, absC, scalar, alen, acap, conc, flats, live, blkOf, aload, rd, part?, afieldAddr, afield, aindexAddr, cellsOf, afill, places, abuild, optI, asliceV, asliceS, szOk, srcCells, aappend, acopy, astore, amakeSlice, abuildSlice, snapL, mapO, treeL, AVal.tree, AVal.flatT, isFlat, ares, isFz, afroz, afrozB, lookupA, lookupH, tops, if_true, if_false, reduceCtorEq, forall_const, ite_true, ite_false, implies_true, walkS, tabS, Tryz.results164, eq_true hv]
  refine ex_loop (fun k : {k : Int × Int // (1 ≤ k.1 ∧ k.1 ≤ k.2 ∧ k.2 ≤ 1000000000000000000) ∧ (∀ n, 1 ≤ n → n < k.1 → lgI n < v) ∧ (k.2 = 1000000000000000000 ∨ v ≤ lgI k.2)} => mk [(0, .i v), (3, .i k.1.1), (4, .i k.1.2)] [] 0 26) (fun k => (k.1.2 - k.1.1).toNat) ⟨(1, 1000000000000000000), ⟨by decide, by decide, by decide⟩, fun n n1 n2 => absurd n2 (by show ¬ n < 1; omega), .inl rfl⟩ ?_ ?_
  · refine weak_mk rfl (by first | exact Nat.le_refl _ | (simp only [mk_gen]; omega)) ?_ ?_ <;> simp +decide only [w_lookup_nil, w_lookup_cons, ch_ch, ch_lit, lit_ch, wkT, wkH, wkB, WVL, WV_refl', Int.natCast_zero, Int.natCast_add, Int.natCast_one, Nat.sub_self, Nat.sub_zero, List.replicate_zero, List.take_zero, List.nil_append, List.append_nil, fillC_zero, Nat.reduceDiv, Nat.reduceAdd, upd_bk, bk_at, getB_zero, getB_succ, modB_zero, modB_succ, rows_lit, repB_zero, repB_succ, List.length_cons, List.length_nil, upd_upd_same, upd_apply, mk_tmp, mk_heap, mk_gen, lookupA, lookupH, List.getD_cons_zero, List.getD_cons_succ, init_two, tops, Bool.true_and, and_self, and_true, true_and, true_or, if_true, if_false, ite_true, ite_false, reduceCtorEq, reduceIte]
  rintro ⟨⟨a, b⟩, ⟨h1, h2, h3⟩, h4, h5⟩
  have h1' : 1 ≤ a := h1
  have h2' : a ≤ b := h2
  have h3' : b ≤ 1000000000000000000 := h3
  have h4' : ∀ n, 1 ≤ n → n < a → lgI n < v := h4
  have h5' : b = 1000000000000000000 ∨ v ≤ lgI b := h5
  by_cases hlt : a < b
  case neg =>
    have e : a = b := by omega
    subst e
    have e2 := pw_unique (v := v) (k := a) ⟨⟨h1', h3'⟩, h4', h5'⟩
    rw [← e2]
    simp (config := { maxSteps := 1000000 }) +decide only [NoH, Old, OldL, nilQ, nilA, asgn, nz, RechL, ReY, isNew, stepO, XPost, postN, XOk, updN, updU, isEff, avalue, aeff, ASt.eval, ASt.put, ASt.set, ASt.new, Nat.reduceDiv, Nat.reduceAdd, Int.reduceToNat, absV, absC, scalar, alen, acap, conc, flats, live, blkOf, aload, rd, part?, afieldAddr, afield, aindexAddr, cellsOf, afill, places, abuild, optI, asliceV, asliceS, szOk, srcCells, aappend, acopy, astore, amakeSlice, abuildSlice, snapL, mapO, treeL, AVal.tree, AVal.flatT, isFlat, ares, isFz, afroz, afrozB, lookupA, lookupH, tops, if_true, if_false, reduceCtorEq, forall_const, ite_true, ite_false, implies_true, walkS, tabS, Tryz.results164, eq_false hlt]
  have w1 : IntKind.i64.wrap (b - a) = b - a := wrap64 (by omega) (by omega)
  have hq : (b - a).tdiv 2 = (b - a) / 2 := Int.tdiv_eq_ediv_of_nonneg (by omega)
  have w2 : IntKind.i64.wrap ((b - a) / 2) = (b - a) / 2 := wrap64 (by omega) (by omega)
  have w3 : IntKind.i64.wrap (a + (b - a) / 2) = a + (b - a) / 2 := wrap64 (by omega) (by omega)
  generalize hm : a + (b - a) / 2 = m at w3
  have m1 : a ≤ m := by omega
  have m2 : m < b := by omega
  have w4 : IntKind.i64.wrap (m + 1) = m + 1 := wrap64 (by omega) (by omega)
  simp (config := { maxSteps := 1000000 }) +decide only [NoH, Old, OldL, nilQ, nilA, asgn, nz, RechL, ReY, isNew, stepO, XPost, postN, XOk, updN, updU, isEff, avalue, aeff, ASt.eval, ASt.put, ASt.set, ASt.new, Nat.reduceDiv, Nat.reduceAdd, Int.reduceToNat, absV, absC, scalar, alen, acap, conc, flats, live, blkOf, aload, rd, part?, afieldAddr, afield, aindexAddr, cellsOf, afill, places, abuild, optI, asliceV, asliceS, szOk, srcCells, aappend, acopy, astore, amakeSlice, abuildSlice, snapL, mapO, treeL, AVal.tree, AVal.flatT, isFlat, ares, isFz, afroz, afrozB, lookupA, lookupH, tops, if_true, if_false, reduceCtorEq, forall_const, ite_true, ite_false, implies_true, walkS, tabS, Tryz.results164, eq_true hlt, w1, sem_quo, hq, w2, hm, w3]
  refine callK (den_LogDbI m (by omega) (by omega)) (by first | exact .inl rfl | exact .inr rfl) ?_
  by_cases c : v ≤ lgI m
  · simp (config := { maxSteps := 1000000 }) +decide only [NoH, Old, OldL, nilQ, nilA, asgn, nz, RechL, ReY, isNew, stepO, XPost, postN, XOk, updN, updU, isEff, avalue, aeff, ASt.eval, ASt.put, ASt.set, ASt.new, Nat.reduceDiv, Nat.reduceAdd, Int.reduceToNat, absV, absC, scalar, alen, acap, conc, flats, live, blkOf, aload, rd, part?, afieldAddr, afield, aindexAddr, cellsOf, afill, places, abuild, optI, asliceV, asliceS, szOk, srcCells, aappend, acopy, astore, amakeSlice, abuildSlice, snapL, mapO, treeL, AVal.tree, AVal.flatT, isFlat, ares, isFz, afroz, afrozB, lookupA, lookupH, tops, if_true, if_false, reduceCtorEq, forall_const, ite_true, ite_false, implies_true, walkS, tabS, Tryz.results164, eq_true c, w4]
    refine ⟨⟨(a, m), ⟨h1', m1, by show m ≤ _; omega⟩, h4', .inr c⟩, ?_, ?_⟩
    · refine weak_mk rfl (by first | exact Nat.le_refl _ | (simp only [mk_gen]; omega)) ?_ ?_ <;> simp +decide only [w_lookup_nil, w_lookup_cons, ch_ch, ch_lit, lit_ch, wkT, wkH, wkB, WVL, WV_refl', Int.natCast_zero, Int.natCast_add, Int.natCast_one, Nat.sub_self, Nat.sub_zero, List.replicate_zero, List.take_zero, List.nil_append, List.append_nil, fillC_zero, Nat.reduceDiv, Nat.reduceAdd, upd_bk, bk_at, getB_zero, getB_succ, modB_zero, modB_succ, rows_lit, repB_zero, repB_succ, List.length_cons, List.length_nil, upd_upd_same, upd_apply, mk_tmp, mk_heap, mk_gen, lookupA, lookupH, List.getD_cons_zero, List.getD_cons_succ, init_two, tops, Bool.true_and, and_self, and_true, true_and, true_or, if_true, if_false, ite_true, ite_false, reduceCtorEq, reduceIte]
    · show (m - a).toNat < (b - a).toNat
      omega
  · simp (config := { maxSteps := 1000000 }) +decide only [NoH, Old, OldL, nilQ, nilA, asgn, nz, RechL, ReY, isNew, stepO, XPost, postN, XOk, updN, updU, isEff, avalue, aeff, ASt.eval, ASt.put, ASt.set, ASt.new, Nat.reduceDiv, Nat.reduceAdd, Int.reduceToNat, absV, absC, scalar, alen, acap, conc, flats, live, blkOf, aload, rd, part?, afieldAddr, afield, aindexAddr, cellsOf, afill, places, abuild, optI, asliceV, asliceS, szOk, srcCells, aappend, acopy, astore, amakeSlice, abuildSlice, snapL, mapO, treeL, AVal.tree, AVal.flatT, isFlat, ares, isFz, afroz, afrozB, lookupA, lookupH, tops, if_true, if_false, reduceCtorEq, forall_const, ite_true, ite_false, implies_true, walkS, tabS, Tryz.results164, eq_false c, w4]
    refine ⟨⟨(m + 1, b), ⟨by show 1 ≤ m + 1; omega, by show m + 1 ≤ b; omega, h3'⟩, fun n n1 n2 => ?_, h5'⟩, ?_, ?_⟩
    · have n2' : n < m + 1 := n2
      have := lgI_mono (x := n) (y := m) n1 (by omega)
      omega
    · refine weak_mk rfl (by first | exact Nat.le_refl _ | (simp only [mk_gen]; omega)) ?_ ?_ <;> simp +decide only [w_lookup_nil, w_lookup_cons, ch_ch, ch_lit, lit_ch, wkT, wkH, wkB, WVL, WV_refl', Int.natCast_zero, Int.natCast_add, Int.natCast_one, Nat.sub_self, Nat.sub_zero, List.replicate_zero, List.take_zero, List.nil_append, List.append_nil, fillC_zero, Nat.reduceDiv, Nat.reduceAdd, upd_bk, bk_at, getB_zero, getB_succ, modB_zero, modB_succ, rows_lit, repB_zero, repB_succ, List.length_cons, List.length_nil, upd_upd_same, upd_apply, mk_tmp, mk_heap, mk_gen, lookupA, lookupH, List.getD_cons_zero, List.getD_cons_succ, init_two, tops, Bool.true_and, and_self, and_true, true_and, true_or, if_true, if_false, ite_true, ite_false, reduceCtorEq, reduceIte]
    · show (b - (m + 1)).toNat < (b - a).toNat
      omega
def COk (c : Int) : Prop := 25 ≤ c ∧ c ≤ 400
def MOk (m : Int) : Prop := 0 ≤ m ∧ m ≤ 100000
def ovV (f d c m : Int) : Int := lgI c + lgI (max (f / 1000) 1) + 3 * lgI d - 142218 - m
noncomputable def ovG (v : Int) : Int := if v < 0 then 0 else min (pw v) 1000000
theorem ovG_in (v : Int) : 0 ≤ ovG v ∧ ovG v ≤ 1000000 := by
  have := (pw_is v).1
  unfold ovG
  split <;> omega
theorem ovG_mono {v w : Int} (h : v ≤ w) : ovG v ≤ ovG w := by
  have h1 := (pw_is v).1
  have h2 := (pw_is w).1
  have := pw_mono h
  unfold ovG
  split <;> split <;> omega
theorem lgI_up {x : Int} (k : Nat) (h : 1 ≤ x) (h2 : x < (10 : Nat) ^ k) : lgI x < 10000 * k := by
  have := lgd_le (n := x.toNat) (k := k) (by omega) (by omega)
  unfold lgI
  omega
end Go.Proofs.YtiaemddmkmfijaaGreatDoor
