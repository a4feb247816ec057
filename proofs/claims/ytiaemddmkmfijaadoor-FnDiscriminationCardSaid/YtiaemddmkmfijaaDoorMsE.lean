/-
  OWN WORK: discriminations of masks; masks that meet.
-/
import Derived.Test.YtiaemddmkmfijaaDoorMsC
import Derived.Test.YtiaemddmkmfijaaDoorMsD
import Derived.Test.YtiaemddmkmfijaaDoorDbU
namespace Go.Proofs.YtiaemddmkmfijaaDoor
open Go Go.Own Go.Proofs
set_option maxHeartbeats 4000000
set_option maxRecDepth 20000
set_option linter.unusedSimpArgs false
set_option linter.unusedVariables false
/-! ### sums of parts -/
noncomputable def sumP (f : Nat → Int) : Nat → Int
  | 0 => 0
  | n + 1 => sumP f n + f n
theorem sumP_in {f : Nat → Int} : ∀ n, (∀ i, i < n → 0 ≤ f i ∧ f i ≤ 1000000000) → 0 ≤ sumP f n ∧ sumP f n ≤ 1000000000 * n
  | 0, _ => by simp [sumP]
  | n + 1, h => by
    have a := sumP_in n fun i hi => h i (by omega)
    have b := h n (by omega)
    simp only [sumP]
    omega
theorem sumP_le {f g : Nat → Int} : ∀ n, (∀ i, i < n → f i ≤ g i) → sumP f n ≤ sumP g n
  | 0, _ => Int.le_refl _
  | n + 1, h => by
    have a := sumP_le n fun i hi => h i (by omega)
    have b := h n (by omega)
    simp only [sumP]
    omega
theorem sumP_one {f : Nat → Int} {k : Nat} : ∀ n, (∀ i, i < n → 0 ≤ f i) → k < n → f k ≤ sumP f n
  | 0, _, h => by omega
  | n + 1, h, hk => by
    simp only [sumP]
    have b := h n (by omega)
    by_cases e : k = n
    · subst e
      have : ∀ m, m ≤ k → 0 ≤ sumP f m := by
        intro m
        induction m with
        | zero => exact fun _ => Int.le_refl _
        | succ m ih =>
          intro hm
          have a := ih (by omega)
          have b := h m (by omega)
          simp only [sumP]
          omega
      have := this k (Nat.le_refl _)
      omega
    · have := sumP_one (k := k) n (fun i hi => h i (by omega)) (by omega)
      omega
theorem sumP_scale {f g : Nat → Int} : ∀ n, (∀ i, i < n → 10000 * f i ≤ 10003 * g i + 10000) → 10000 * sumP f n ≤ 10003 * sumP g n + 10000 * n
  | 0, _ => by simp [sumP]
  | n + 1, h => by
    have a := sumP_scale n fun i hi => h i (by omega)
    have b := h n (by omega)
    simp only [sumP]
    omega
theorem prt_next {u v : Int} (hu : u ≤ 0) (hv : v ≤ 0) (h : u ≤ v + 1) : 10000 * prt u ≤ 10003 * prt v + 10000 := by
  have iv := prt_in hv
  by_cases c0 : u ≤ v
  · have := prt_mono c0
    omega
  have eu : u = v + 1 := by omega
  subst eu
  by_cases c1 : v + 1 < -90000
  · have : prt (v + 1) = 0 := if_pos c1
    omega
  obtain ⟨a1, a2, a3, a4⟩ := prt_is (v := v + 1) (by omega) hu
  by_cases c2 : (prt (v + 1)).toNat < 2
  · omega
  have a5 := a4 (by omega)
  by_cases c3 : v < -90000
  · omega
  obtain ⟨b1, b2, b3, b4⟩ := prt_is (v := v) (by omega) hv
  have k := cmp_dn (x := (prt v).toNat) (u := 1) (m := (prt (v + 1)).toNat - 1) (by omega) (by omega) (by omega) (by rw [lgd_1]; omega)
  omega
/-! ### what is discriminated -/
def smp (w : Int) (i : Nat) : Int := drV (2 * w * i) 64 - w
theorem smp_in {w : Int} (hw : 0 ≤ w) {i : Nat} (hi : i ≤ 64) : 0 ≤ 2 * w * i ∧ 2 * w * i ≤ 2 * w * 64 ∧ -w ≤ smp w i ∧ smp w i ≤ w := by
  have p0 : 0 ≤ 2 * w * (i : Int) := Int.mul_nonneg (by omega) (by omega)
  have p1 : 2 * w * (i : Int) ≤ 2 * w * 64 := Int.mul_le_mul_of_nonneg_left (by omega) (by omega)
  have := dr_in (m := 64) (q := 2 * w) (by omega) p0 p1
  unfold smp
  omega
theorem smp_mid {w : Int} (hw : 0 ≤ w) : smp w 32 = 0 := by
  have h := drV_is (n := 2 * w * (32 : Nat)) (m := 64) (by omega)
  unfold IsDr at h
  unfold smp
  omega
noncomputable def allP (O L : List Int) (n : Nat) : Int := sumP (fun i => prt (-(lossV O L (smp (O.getD (O.length - 1) 0) i)))) n
noncomputable def pasP (O L P Q : List Int) (sh : Int) (n : Nat) : Int := sumP (fun i => prt (-(lossV O L (smp (O.getD (O.length - 1) 0) i)) - lossV P Q (smp (O.getD (O.length - 1) 0) i - sh))) n
noncomputable def discV (O L P Q : List Int) (sh : Int) : Int := if pasP O L P Q sh 65 = 0 then 120000 else lgI (allP O L 65) - lgI (pasP O L P Q sh 65)
section
variable {O L P Q : List Int} (h : MkOk O L) (g : MkOk P Q)
include h
theorem allP_in (n : Nat) : 0 ≤ allP O L n ∧ allP O L n ≤ 1000000000 * n := sumP_in n fun i _ => prt_in (by have := (lossV_in h (smp (O.getD (O.length - 1) 0) i)).1; omega)
theorem allP_big : 1000000000 ≤ allP O L 65 := by
  have n2 := h.n2
  have k := sumP_one (f := fun i => prt (-(lossV O L (smp (O.getD (O.length - 1) 0) i)))) (k := 32) 65 (fun i _ => (prt_in (by have := (lossV_in h (smp (O.getD (O.length - 1) 0) i)).1; omega)).1) (by omega)
  have e : lossV O L 0 = 0 := by
    rw [lossV_T, show ab 0 = 0 from rfl]
    have := lossT_at h (k := 0) (by omega)
    rw [h.o0, h.l0] at this
    exact this
  have k' : prt (-(lossV O L (smp (O.getD (O.length - 1) 0) 32))) ≤ allP O L 65 := k
  rw [smp_mid (h.oAt (by omega)).1, e] at k'
  rw [show (-0 : Int) = 0 from rfl, prt_0] at k'
  exact k'
include g
theorem pasP_in (sh : Int) (n : Nat) : 0 ≤ pasP O L P Q sh n ∧ pasP O L P Q sh n ≤ 1000000000 * n := sumP_in n fun i _ => prt_in (by
  have := (lossV_in h (smp (O.getD (O.length - 1) 0) i)).1
  have := (lossV_in g (smp (O.getD (O.length - 1) 0) i - sh)).1
  omega)
omit h in
theorem pas_all (sh : Int) : pasP O L P Q sh 65 ≤ allP O L 65 := sumP_le 65 fun i _ => prt_mono (by
  have := (lossV_in g (smp (O.getD (O.length - 1) 0) i - sh)).1
  omega)
theorem disc_in (sh : Int) : 0 ≤ discV O L P Q sh ∧ discV O L P Q sh ≤ 120000 := by
  unfold discV
  have a := pasP_in h g sh 65
  have b := allP_in h 65
  have c := pas_all (O := O) (L := L) g sh
  split
  · omega
  · have d := lgI_mono (x := pasP O L P Q sh 65) (y := allP O L 65) (by omega) c
    have e := lgI_up (x := allP O L 65) 11 (by omega) (by show allP O L 65 < ((10 ^ 11 : Nat) : Int); rw [show (10 ^ 11 : Nat) = 100000000000 from rfl]; omega)
    have f := lgI_in (x := pasP O L P Q sh 65) (by omega) (by omega)
    omega
/-- a common mask does not let more than a little more through -/
theorem disc_common {R S : List Int} (r : MkOk R S) (sh : Int) (hc : ∀ x, lossV P Q x - 1 ≤ lossV R S x) (hs : discV O L P Q sh < 30000) : discV O L P Q sh - 5 ≤ discV O L R S sh := by
  have a1 := pasP_in h g sh 65
  have a2 := pasP_in h r sh 65
  have b := allP_in h 65
  have big := allP_big h
  have c := pas_all (O := O) (L := L) r sh
  have sc : 10000 * pasP O L R S sh 65 ≤ 10003 * pasP O L P Q sh 65 + 10000 * (65 : Nat) := sumP_scale 65 fun i _ => prt_next (by
    have := (lossV_in h (smp (O.getD (O.length - 1) 0) i)).1
    have := (lossV_in r (smp (O.getD (O.length - 1) 0) i - sh)).1
    omega) (by
    have := (lossV_in h (smp (O.getD (O.length - 1) 0) i)).1
    have := (lossV_in g (smp (O.getD (O.length - 1) 0) i - sh)).1
    omega) (by
    have := hc (smp (O.getD (O.length - 1) 0) i - sh)
    omega)
  unfold discV at hs ⊢
  generalize pasP O L P Q sh 65 = p at *
  generalize pasP O L R S sh 65 = q at *
  generalize allP O L 65 = A at *
  by_cases p0 : p = 0
  · rw [if_pos p0] at hs; omega
  rw [if_neg p0] at hs ⊢
  by_cases q0 : q = 0
  · rw [if_pos q0]; omega
  rw [if_neg q0]
  have l9 := lgI_mono (x := 1000000000) (y := A) (by omega) big
  rw [lgI_9] at l9
  have pb : 1000000 ≤ p := Classical.byContradiction fun k => by
    have := lgI_up (x := p) 6 (by omega) (by show p < ((10 ^ 6 : Nat) : Int); rw [show (10 ^ 6 : Nat) = 1000000 from rfl]; omega)
    omega
  obtain ⟨p', rfl⟩ : ∃ n : Nat, p = n := ⟨p.toNat, by omega⟩
  obtain ⟨q', rfl⟩ : ∃ n : Nat, q = n := ⟨q.toNat, by omega⟩
  have k := lgd_le_mul (x := p') (y := 10004) (z := 10 ^ 4 * q') (by omega) (by omega) (by rw [show (10 : Nat) ^ 4 = 10000 from rfl]; omega) (by rw [show (10 : Nat) ^ 4 = 10000 from rfl]; omega)
  rw [lgd_tens (n := q') (by omega) 4] at k
  have hi := lgd_hi
  have e1 : lgI (p' : Int) = (lgd p' : Int) := rfl
  have e2 : lgI (q' : Int) = (lgd q' : Int) := rfl
  rw [e1] at hs
  rw [e1, e2]
  omega
end
theorem den_discrimination {O L P Q : List Int} (h : MkOk O L) (g : MkOk P Q) (sh : Int) (hsh : -1000000 ≤ sh ∧ sh ≤ 1000000) : Den Tryd.prog 45 [mkV O L, mkV P Q, .i sh] (.i (discV O L P Q sh)) := by
  refine den_of_awpG (ghs [] [3, 4]) Tryd.func45 rfl (by kernel_rfl) (Nat.le_of_ble_eq_true rfl) (by simp only [treeL, AVal.tree, treeL_i, treeL_ints, treeL_u8, treeL_append, Bool.and_self, Bool.and_true, Bool.true_and]) (by first | rfl | simp only [treeL, AVal.tree, treeL_i, treeL_ints, treeL_u8, treeL_append, Bool.and_self, Bool.and_true, Bool.true_and]) mixed (by kernel_rfl) fun hl => ?_
  simp only [lensL, lens, lensL_i, lensL_mapC, maxI, and_true, true_and] at hl
  rw [Tryd.ntmps45]
  refine ex_start ?_
  have n2 := h.n2
  obtain ⟨w, hw⟩ : ∃ w, O.getD (O.length - 1) 0 = w := ⟨_, rfl⟩
  have bw := h.oAt (i := O.length - 1) (by omega)
  rw [hw] at bw
  simp (config := { maxSteps := 1000000 }) +decide only [NoH, Old, OldL, nilQ, nilA, asgn, nz, RechL, ReY, isNew, stepO, XPost, postN, XOk, updN, updU, isEff, avalue, aeff, ASt.eval, ASt.put, ASt.set, ASt.new, Nat.reduceDiv, Nat.reduceAdd, Int.reduceToNat, absV, absC, scalar, alen, acap, conc, flats, live, blkOf, aload, rd, part?, afieldAddr, afield, aindexAddr, cellsOf, afill, places, abuild, optI, asliceV, asliceS, szOk, srcCells, aappend, acopy, astore, amakeSlice, abuildSlice, snapL, mapO, treeL, AVal.tree, AVal.flatT, isFlat, ares, isFz, afroz, afrozB, lookupA, lookupH, tops, if_true, if_false, reduceCtorEq, forall_const, ite_true, ite_false, implies_true, walkS, tabS, Tryd.results45]
  refine callK (den_mend h) (by first | exact .inl rfl | exact .inr rfl) ?_
  simp (config := { maxSteps := 1000000 }) +decide only [NoH, Old, OldL, nilQ, nilA, asgn, nz, RechL, ReY, isNew, stepO, XPost, postN, XOk, updN, updU, isEff, avalue, aeff, ASt.eval, ASt.put, ASt.set, ASt.new, Nat.reduceDiv, Nat.reduceAdd, Int.reduceToNat, absV, absC, scalar, alen, acap, conc, flats, live, blkOf, aload, rd, part?, afieldAddr, afield, aindexAddr, cellsOf, afill, places, abuild, optI, asliceV, asliceS, szOk, srcCells, aappend, acopy, astore, amakeSlice, abuildSlice, snapL, mapO, treeL, AVal.tree, AVal.flatT, isFlat, ares, isFz, afroz, afrozB, lookupA, lookupH, tops, if_true, if_false, reduceCtorEq, forall_const, ite_true, ite_false, implies_true, walkS, tabS, Tryd.results45, hw]
  refine ex_loop (fun k : {k : Nat // k ≤ 65} => mkG (ghs [] [3, 4]) [(2, .i sh), (3, mkP O L), (4, mkP P Q), (7, .i (allP O L k.1)), (8, .i (pasP O L P Q sh k.1)), (9, .i w), (15, .i k.1)] [] 0 52) (fun k => 65 - k.1) ⟨0, by omega⟩ ?_ ?_
  · have e1 : allP O L 0 = 0 := rfl
    have e2 : pasP O L P Q sh 0 = 0 := rfl
    refine weak_mk rfl (by first | exact Nat.le_refl _ | (simp only [mk_gen]; omega)) ?_ ?_ <;> simp +decide only [w_lookup_nil, w_lookup_cons, ch_ch, ch_lit, lit_ch, wkT, wkH, wkB, WVL, WV_refl', Int.natCast_zero, Int.natCast_add, Int.natCast_one, Nat.sub_self, Nat.sub_zero, List.replicate_zero, List.take_zero, List.nil_append, List.append_nil, fillC_zero, Nat.reduceDiv, Nat.reduceAdd, upd_bk, bk_at, getB_zero, getB_succ, modB_zero, modB_succ, rows_lit, repB_zero, repB_succ, List.length_cons, List.length_nil, upd_upd_same, upd_apply, mk_tmp, mk_heap, mk_gen, lookupA, lookupH, List.getD_cons_zero, List.getD_cons_succ, init_two, tops, Bool.true_and, and_self, and_true, true_and, true_or, if_true, if_false, ite_true, ite_false, reduceCtorEq, reduceIte, e1, e2]
  rintro ⟨k, hk⟩
  have hk' : k ≤ 65 := hk
  have a1 := pasP_in h g sh k
  have a2 := allP_in h k
  by_cases hlt : k < 65
  case neg =>
    have e : k = 65 := by omega
    subst e
    have hltI : ¬ ((65 : Nat) : Int) < 65 := by omega
    have big := allP_big h
    unfold discV
    generalize pasP O L P Q sh 65 = p at *
    generalize allP O L 65 = A at *
    by_cases p0 : p = 0
    · subst p0
      simp (config := { maxSteps := 1000000 }) +decide only [NoH, Old, OldL, nilQ, nilA, asgn, nz, RechL, ReY, isNew, stepO, XPost, postN, XOk, updN, updU, isEff, avalue, aeff, ASt.eval, ASt.put, ASt.set, ASt.new, Nat.reduceDiv, Nat.reduceAdd, Int.reduceToNat, absV, absC, scalar, alen, acap, conc, flats, live, blkOf, aload, rd, part?, afieldAddr, afield, aindexAddr, cellsOf, afill, places, abuild, optI, asliceV, asliceS, szOk, srcCells, aappend, acopy, astore, amakeSlice, abuildSlice, snapL, mapO, treeL, AVal.tree, AVal.flatT, isFlat, ares, isFz, afroz, afrozB, lookupA, lookupH, tops, if_true, if_false, reduceCtorEq, forall_const, ite_true, ite_false, implies_true, walkS, tabS, Tryd.results45, eq_false hltI]
    · have f1 := lgI_in (x := p) (by omega) (by omega)
      have f2 := lgI_in (x := A) (by omega) (by omega)
      have wd : IntKind.i64.wrap (lgI A - lgI p) = lgI A - lgI p := wrap64 (by omega) (by omega)
      simp (config := { maxSteps := 1000000 }) +decide only [NoH, Old, OldL, nilQ, nilA, asgn, nz, RechL, ReY, isNew, stepO, XPost, postN, XOk, updN, updU, isEff, avalue, aeff, ASt.eval, ASt.put, ASt.set, ASt.new, Nat.reduceDiv, Nat.reduceAdd, Int.reduceToNat, absV, absC, scalar, alen, acap, conc, flats, live, blkOf, aload, rd, part?, afieldAddr, afield, aindexAddr, cellsOf, afill, places, abuild, optI, asliceV, asliceS, szOk, srcCells, aappend, acopy, astore, amakeSlice, abuildSlice, snapL, mapO, treeL, AVal.tree, AVal.flatT, isFlat, ares, isFz, afroz, afrozB, lookupA, lookupH, tops, if_true, if_false, reduceCtorEq, forall_const, ite_true, ite_false, implies_true, walkS, tabS, Tryd.results45, eq_false hltI, eq_false p0]
      refine callK (den_LogDbI A (by omega) (by omega)) (by first | exact .inl rfl | exact .inr rfl) ?_
      simp (config := { maxSteps := 1000000 }) +decide only [NoH, Old, OldL, nilQ, nilA, asgn, nz, RechL, ReY, isNew, stepO, XPost, postN, XOk, updN, updU, isEff, avalue, aeff, ASt.eval, ASt.put, ASt.set, ASt.new, Nat.reduceDiv, Nat.reduceAdd, Int.reduceToNat, absV, absC, scalar, alen, acap, conc, flats, live, blkOf, aload, rd, part?, afieldAddr, afield, aindexAddr, cellsOf, afill, places, abuild, optI, asliceV, asliceS, szOk, srcCells, aappend, acopy, astore, amakeSlice, abuildSlice, snapL, mapO, treeL, AVal.tree, AVal.flatT, isFlat, ares, isFz, afroz, afrozB, lookupA, lookupH, tops, if_true, if_false, reduceCtorEq, forall_const, ite_true, ite_false, implies_true, walkS, tabS, Tryd.results45]
      refine callK (den_LogDbI p (by omega) (by omega)) (by first | exact .inl rfl | exact .inr rfl) ?_
      simp (config := { maxSteps := 1000000 }) +decide only [NoH, Old, OldL, nilQ, nilA, asgn, nz, RechL, ReY, isNew, stepO, XPost, postN, XOk, updN, updU, isEff, avalue, aeff, ASt.eval, ASt.put, ASt.set, ASt.new, Nat.reduceDiv, Nat.reduceAdd, Int.reduceToNat, absV, absC, scalar, alen, acap, conc, flats, live, blkOf, aload, rd, part?, afieldAddr, afield, aindexAddr, cellsOf, afill, places, abuild, optI, asliceV, asliceS, szOk, srcCells, aappend, acopy, astore, amakeSlice, abuildSlice, snapL, mapO, treeL, AVal.tree, AVal.flatT, isFlat, ares, isFz, afroz, afrozB, lookupA, lookupH, tops, if_true, if_false, reduceCtorEq, forall_const, ite_true, ite_false, implies_true, walkS, tabS, Tryd.results45, wd, if_neg p0]
  have hltI : (k : Int) < 65 := by omega
  have wk : IntKind.i64.wrap ((k : Int) + 1) = ((k + 1 : Nat) : Int) := wrap64 (by omega) (by omega)
  obtain ⟨s1, s2, s3, s4⟩ := smp_in bw.1 (i := k) (by omega)
  have w1 : IntKind.i64.wrap (2 * w) = 2 * w := wrap64 (by omega) (by omega)
  have w2 : IntKind.i64.wrap (2 * w * (k : Int)) = 2 * w * (k : Int) := wrap64 (by omega) (by omega)
  have w3 : IntKind.i64.wrap (drV (2 * w * (k : Int)) 64 - w) = smp w k := wrap64 (by show -9223372036854775808 ≤ smp w k; omega) (by show smp w k ≤ 9223372036854775807; omega)
  have w4 : IntKind.i64.wrap (smp w k - sh) = smp w k - sh := wrap64 (by omega) (by omega)
  have x1 := lossV_in h (smp w k)
  have x2 := lossV_in g (smp w k - sh)
  have w5 : IntKind.i64.wrap (0 - lossV O L (smp w k)) = -(lossV O L (smp w k)) := (wrap64 (by omega) (by omega)).trans (by omega)
  have w6 : IntKind.i64.wrap (-(lossV O L (smp w k)) - lossV P Q (smp w k - sh)) = -(lossV O L (smp w k)) - lossV P Q (smp w k - sh) := wrap64 (by omega) (by omega)
  have p1 := prt_in (v := -(lossV O L (smp w k))) (by omega)
  have p2 := prt_in (v := -(lossV O L (smp w k)) - lossV P Q (smp w k - sh)) (by omega)
  have e1 : allP O L (k + 1) = allP O L k + prt (-(lossV O L (smp w k))) := by rw [← hw]; rfl
  have e2 : pasP O L P Q sh (k + 1) = pasP O L P Q sh k + prt (-(lossV O L (smp w k)) - lossV P Q (smp w k - sh)) := by rw [← hw]; rfl
  have w7 : IntKind.i64.wrap (allP O L k + prt (-(lossV O L (smp w k)))) = allP O L (k + 1) := by rw [e1]; exact wrap64 (by omega) (by omega)
  have w8 : IntKind.i64.wrap (pasP O L P Q sh k + prt (-(lossV O L (smp w k)) - lossV P Q (smp w k - sh))) = pasP O L P Q sh (k + 1) := by rw [e2]; exact wrap64 (by omega) (by omega)
  simp (config := { maxSteps := 1000000 }) +decide only [NoH, Old, OldL, nilQ, nilA, asgn, nz, RechL, ReY, isNew, stepO, XPost, postN, XOk, updN, updU, isEff, avalue, aeff, ASt.eval, ASt.put, ASt.set, ASt.new, Nat.reduceDiv, Nat.reduceAdd, Int.reduceToNat, absV, absC, scalar, alen, acap, conc, flats, live, blkOf, aload, rd, part?, afieldAddr, afield, aindexAddr, cellsOf, afill, places, abuild, optI, asliceV, asliceS, szOk, srcCells, aappend, acopy, astore, amakeSlice, abuildSlice, snapL, mapO, treeL, AVal.tree, AVal.flatT, isFlat, ares, isFz, afroz, afrozB, lookupA, lookupH, tops, if_true, if_false, reduceCtorEq, forall_const, ite_true, ite_false, implies_true, walkS, tabS, Tryd.results45, eq_true hltI, w1, w2]
  refine callK (den_divRound (2 * w * (k : Int)) 64 (by omega) (by omega) (by omega) (by omega)) (by first | exact .inl rfl | exact .inr rfl) ?_
  simp (config := { maxSteps := 1000000 }) +decide only [NoH, Old, OldL, nilQ, nilA, asgn, nz, RechL, ReY, isNew, stepO, XPost, postN, XOk, updN, updU, isEff, avalue, aeff, ASt.eval, ASt.put, ASt.set, ASt.new, Nat.reduceDiv, Nat.reduceAdd, Int.reduceToNat, absV, absC, scalar, alen, acap, conc, flats, live, blkOf, aload, rd, part?, afieldAddr, afield, aindexAddr, cellsOf, afill, places, abuild, optI, asliceV, asliceS, szOk, srcCells, aappend, acopy, astore, amakeSlice, abuildSlice, snapL, mapO, treeL, AVal.tree, AVal.flatT, isFlat, ares, isFz, afroz, afrozB, lookupA, lookupH, tops, if_true, if_false, reduceCtorEq, forall_const, ite_true, ite_false, implies_true, walkS, tabS, Tryd.results45, w3]
  refine callK (den_loss h (smp w k) (by omega)) (by first | exact .inl rfl | exact .inr rfl) ?_
  simp (config := { maxSteps := 1000000 }) +decide only [NoH, Old, OldL, nilQ, nilA, asgn, nz, RechL, ReY, isNew, stepO, XPost, postN, XOk, updN, updU, isEff, avalue, aeff, ASt.eval, ASt.put, ASt.set, ASt.new, Nat.reduceDiv, Nat.reduceAdd, Int.reduceToNat, absV, absC, scalar, alen, acap, conc, flats, live, blkOf, aload, rd, part?, afieldAddr, afield, aindexAddr, cellsOf, afill, places, abuild, optI, asliceV, asliceS, szOk, srcCells, aappend, acopy, astore, amakeSlice, abuildSlice, snapL, mapO, treeL, AVal.tree, AVal.flatT, isFlat, ares, isFz, afroz, afrozB, lookupA, lookupH, tops, if_true, if_false, reduceCtorEq, forall_const, ite_true, ite_false, implies_true, walkS, tabS, Tryd.results45, w5]
  refine callK (den_partOf (-(lossV O L (smp w k))) (by omega)) (by first | exact .inl rfl | exact .inr rfl) ?_
  simp (config := { maxSteps := 1000000 }) +decide only [NoH, Old, OldL, nilQ, nilA, asgn, nz, RechL, ReY, isNew, stepO, XPost, postN, XOk, updN, updU, isEff, avalue, aeff, ASt.eval, ASt.put, ASt.set, ASt.new, Nat.reduceDiv, Nat.reduceAdd, Int.reduceToNat, absV, absC, scalar, alen, acap, conc, flats, live, blkOf, aload, rd, part?, afieldAddr, afield, aindexAddr, cellsOf, afill, places, abuild, optI, asliceV, asliceS, szOk, srcCells, aappend, acopy, astore, amakeSlice, abuildSlice, snapL, mapO, treeL, AVal.tree, AVal.flatT, isFlat, ares, isFz, afroz, afrozB, lookupA, lookupH, tops, if_true, if_false, reduceCtorEq, forall_const, ite_true, ite_false, implies_true, walkS, tabS, Tryd.results45, w4, w5, w7]
  refine callK (den_loss g (smp w k - sh) (by omega)) (by first | exact .inl rfl | exact .inr rfl) ?_
  simp (config := { maxSteps := 1000000 }) +decide only [NoH, Old, OldL, nilQ, nilA, asgn, nz, RechL, ReY, isNew, stepO, XPost, postN, XOk, updN, updU, isEff, avalue, aeff, ASt.eval, ASt.put, ASt.set, ASt.new, Nat.reduceDiv, Nat.reduceAdd, Int.reduceToNat, absV, absC, scalar, alen, acap, conc, flats, live, blkOf, aload, rd, part?, afieldAddr, afield, aindexAddr, cellsOf, afill, places, abuild, optI, asliceV, asliceS, szOk, srcCells, aappend, acopy, astore, amakeSlice, abuildSlice, snapL, mapO, treeL, AVal.tree, AVal.flatT, isFlat, ares, isFz, afroz, afrozB, lookupA, lookupH, tops, if_true, if_false, reduceCtorEq, forall_const, ite_true, ite_false, implies_true, walkS, tabS, Tryd.results45, w5, w6]
  refine callK (den_partOf (-(lossV O L (smp w k)) - lossV P Q (smp w k - sh)) (by omega)) (by first | exact .inl rfl | exact .inr rfl) ?_
  simp (config := { maxSteps := 1000000 }) +decide only [NoH, Old, OldL, nilQ, nilA, asgn, nz, RechL, ReY, isNew, stepO, XPost, postN, XOk, updN, updU, isEff, avalue, aeff, ASt.eval, ASt.put, ASt.set, ASt.new, Nat.reduceDiv, Nat.reduceAdd, Int.reduceToNat, absV, absC, scalar, alen, acap, conc, flats, live, blkOf, aload, rd, part?, afieldAddr, afield, aindexAddr, cellsOf, afill, places, abuild, optI, asliceV, asliceS, szOk, srcCells, aappend, acopy, astore, amakeSlice, abuildSlice, snapL, mapO, treeL, AVal.tree, AVal.flatT, isFlat, ares, isFz, afroz, afrozB, lookupA, lookupH, tops, if_true, if_false, reduceCtorEq, forall_const, ite_true, ite_false, implies_true, walkS, tabS, Tryd.results45, w8, wk]
  refine ⟨⟨k + 1, hlt⟩, ?_, by show 65 - (k + 1) < 65 - k; omega⟩
  refine weak_mk rfl (by first | exact Nat.le_refl _ | (simp only [mk_gen]; omega)) ?_ ?_ <;> simp +decide only [w_lookup_nil, w_lookup_cons, ch_ch, ch_lit, lit_ch, wkT, wkH, wkB, WVL, WV_refl', Int.natCast_zero, Int.natCast_add, Int.natCast_one, Nat.sub_self, Nat.sub_zero, List.replicate_zero, List.take_zero, List.nil_append, List.append_nil, fillC_zero, Nat.reduceDiv, Nat.reduceAdd, upd_bk, bk_at, getB_zero, getB_succ, modB_zero, modB_succ, rows_lit, repB_zero, repB_succ, List.length_cons, List.length_nil, upd_upd_same, upd_apply, mk_tmp, mk_heap, mk_gen, lookupA, lookupH, List.getD_cons_zero, List.getD_cons_succ, init_two, tops, Bool.true_and, and_self, and_true, true_and, true_or, if_true, if_false, ite_true, ite_false, reduceCtorEq, reduceIte]
theorem den_shiftOk (x : Int) (hx : -1000000 ≤ x ∧ x ≤ 1000000) : Den Tryd.prog 44 [.i x] (.b true) := by
  refine den_of_awp Tryd.func44 rfl (by kernel_rfl) (Nat.le_of_ble_eq_true rfl) (by simp only [treeL, AVal.tree, treeL_i, treeL_ints, treeL_u8, treeL_append, Bool.and_self, Bool.and_true, Bool.true_and]) (by first | rfl | simp only [treeL, AVal.tree, treeL_i, treeL_ints, treeL_u8, treeL_append, Bool.and_self, Bool.and_true, Bool.true_and]) mixed (by kernel_rfl) fun hl => ?_
  simp only [lensL, lens, lensL_i, lensL_mapC, maxI, and_true, true_and] at hl
  rw [Tryd.ntmps44]
  refine ex_start ?_
  simp (config := { maxSteps := 1000000 }) +decide only [NoH, Old, OldL, nilQ, nilA, asgn, nz, RechL, ReY, isNew, stepO, XPost, postN, XOk, updN, updU, isEff, avalue, aeff, ASt.eval, ASt.put, ASt.set, ASt.new, Nat.reduceDiv, Nat.reduceAdd, Int.reduceToNat, absV, absC, scalar, alen, acap, conc, flats, live, blkOf, aload, rd, part?, afieldAddr, afield, aindexAddr, cellsOf, afill, places, abuild, optI, asliceV, asliceS, szOk, srcCells, aappend, acopy, astore, amakeSlice, abuildSlice, snapL, mapO, treeL, AVal.tree, AVal.flatT, isFlat, ares, isFz, afroz, afrozB, lookupA, lookupH, tops, if_true, if_false, reduceCtorEq, forall_const, ite_true, ite_false, implies_true, walkS, tabS, Tryd.results44]
  refine callK (den_within x (-1000000) 1000000) (by first | exact .inl rfl | exact .inr rfl) ?_
  simp (config := { maxSteps := 1000000 }) +decide only [NoH, Old, OldL, nilQ, nilA, asgn, nz, RechL, ReY, isNew, stepO, XPost, postN, XOk, updN, updU, isEff, avalue, aeff, ASt.eval, ASt.put, ASt.set, ASt.new, Nat.reduceDiv, Nat.reduceAdd, Int.reduceToNat, absV, absC, scalar, alen, acap, conc, flats, live, blkOf, aload, rd, part?, afieldAddr, afield, aindexAddr, cellsOf, afill, places, abuild, optI, asliceV, asliceS, szOk, srcCells, aappend, acopy, astore, amakeSlice, abuildSlice, snapL, mapO, treeL, AVal.tree, AVal.flatT, isFlat, ares, isFz, afroz, afrozB, lookupA, lookupH, tops, if_true, if_false, reduceCtorEq, forall_const, ite_true, ite_false, implies_true, walkS, tabS, Tryd.results44, eq_true hx]
theorem den_Discrimination {O L P Q : List Int} (h : MkOk O L) (g : MkOk P Q) (sh : Int) (hsh : -1000000 ≤ sh ∧ sh ≤ 1000000) : Den Tryd.prog 15 [mkV O L, mkV P Q, .i sh] (.tup [.i (discV O L P Q sh), .i 0]) := by
  refine den_of_awpG (ghs [] [3, 4]) Tryd.func15 rfl (by kernel_rfl) (Nat.le_of_ble_eq_true rfl) (by simp only [treeL, AVal.tree, treeL_i, treeL_ints, treeL_u8, treeL_append, Bool.and_self, Bool.and_true, Bool.true_and]) (by first | rfl | simp only [treeL, AVal.tree, treeL_i, treeL_ints, treeL_u8, treeL_append, Bool.and_self, Bool.and_true, Bool.true_and]) mixed (by kernel_rfl) fun hl => ?_
  simp only [lensL, lens, lensL_i, lensL_mapC, maxI, and_true, true_and] at hl
  rw [Tryd.ntmps15]
  refine ex_start ?_
  simp (config := { maxSteps := 1000000 }) +decide only [NoH, Old, OldL, nilQ, nilA, asgn, nz, RechL, ReY, isNew, stepO, XPost, postN, XOk, updN, updU, isEff, avalue, aeff, ASt.eval, ASt.put, ASt.set, ASt.new, Nat.reduceDiv, Nat.reduceAdd, Int.reduceToNat, absV, absC, scalar, alen, acap, conc, flats, live, blkOf, aload, rd, part?, afieldAddr, afield, aindexAddr, cellsOf, afill, places, abuild, optI, asliceV, asliceS, szOk, srcCells, aappend, acopy, astore, amakeSlice, abuildSlice, snapL, mapO, treeL, AVal.tree, AVal.flatT, isFlat, ares, isFz, afroz, afrozB, lookupA, lookupH, tops, if_true, if_false, reduceCtorEq, forall_const, ite_true, ite_false, implies_true, walkS, tabS, Tryd.results15]
  refine callK (den_ValidMask h) (by first | exact .inl rfl | exact .inr rfl) ?_
  simp (config := { maxSteps := 1000000 }) +decide only [NoH, Old, OldL, nilQ, nilA, asgn, nz, RechL, ReY, isNew, stepO, XPost, postN, XOk, updN, updU, isEff, avalue, aeff, ASt.eval, ASt.put, ASt.set, ASt.new, Nat.reduceDiv, Nat.reduceAdd, Int.reduceToNat, absV, absC, scalar, alen, acap, conc, flats, live, blkOf, aload, rd, part?, afieldAddr, afield, aindexAddr, cellsOf, afill, places, abuild, optI, asliceV, asliceS, szOk, srcCells, aappend, acopy, astore, amakeSlice, abuildSlice, snapL, mapO, treeL, AVal.tree, AVal.flatT, isFlat, ares, isFz, afroz, afrozB, lookupA, lookupH, tops, if_true, if_false, reduceCtorEq, forall_const, ite_true, ite_false, implies_true, walkS, tabS, Tryd.results15]
  refine callK (den_ValidMask g) (by first | exact .inl rfl | exact .inr rfl) ?_
  simp (config := { maxSteps := 1000000 }) +decide only [NoH, Old, OldL, nilQ, nilA, asgn, nz, RechL, ReY, isNew, stepO, XPost, postN, XOk, updN, updU, isEff, avalue, aeff, ASt.eval, ASt.put, ASt.set, ASt.new, Nat.reduceDiv, Nat.reduceAdd, Int.reduceToNat, absV, absC, scalar, alen, acap, conc, flats, live, blkOf, aload, rd, part?, afieldAddr, afield, aindexAddr, cellsOf, afill, places, abuild, optI, asliceV, asliceS, szOk, srcCells, aappend, acopy, astore, amakeSlice, abuildSlice, snapL, mapO, treeL, AVal.tree, AVal.flatT, isFlat, ares, isFz, afroz, afrozB, lookupA, lookupH, tops, if_true, if_false, reduceCtorEq, forall_const, ite_true, ite_false, implies_true, walkS, tabS, Tryd.results15]
  refine callK (den_shiftOk sh hsh) (by first | exact .inl rfl | exact .inr rfl) ?_
  simp (config := { maxSteps := 1000000 }) +decide only [NoH, Old, OldL, nilQ, nilA, asgn, nz, RechL, ReY, isNew, stepO, XPost, postN, XOk, updN, updU, isEff, avalue, aeff, ASt.eval, ASt.put, ASt.set, ASt.new, Nat.reduceDiv, Nat.reduceAdd, Int.reduceToNat, absV, absC, scalar, alen, acap, conc, flats, live, blkOf, aload, rd, part?, afieldAddr, afield, aindexAddr, cellsOf, afill, places, abuild, optI, asliceV, asliceS, szOk, srcCells, aappend, acopy, astore, amakeSlice, abuildSlice, snapL, mapO, treeL, AVal.tree, AVal.flatT, isFlat, ares, isFz, afroz, afrozB, lookupA, lookupH, tops, if_true, if_false, reduceCtorEq, forall_const, ite_true, ite_false, implies_true, walkS, tabS, Tryd.results15]
  refine callK (den_discrimination h g sh hsh) (by first | exact .inl rfl | exact .inr rfl) ?_
  simp (config := { maxSteps := 1000000 }) +decide only [NoH, Old, OldL, nilQ, nilA, asgn, nz, RechL, ReY, isNew, stepO, XPost, postN, XOk, updN, updU, isEff, avalue, aeff, ASt.eval, ASt.put, ASt.set, ASt.new, Nat.reduceDiv, Nat.reduceAdd, Int.reduceToNat, absV, absC, scalar, alen, acap, conc, flats, live, blkOf, aload, rd, part?, afieldAddr, afield, aindexAddr, cellsOf, afill, places, abuild, optI, asliceV, asliceS, szOk, srcCells, aappend, acopy, astore, amakeSlice, abuildSlice, snapL, mapO, treeL, AVal.tree, AVal.flatT, isFlat, ares, isFz, afroz, afrozB, lookupA, lookupH, tops, if_true, if_false, reduceCtorEq, forall_const, ite_true, ite_false, implies_true, walkS, tabS, Tryd.results15]
end Go.Proofs.YtiaemddmkmfijaaDoor
