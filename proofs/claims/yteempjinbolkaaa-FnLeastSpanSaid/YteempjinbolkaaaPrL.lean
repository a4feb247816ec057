/-
  OWN WORK: spans of channels; what cliques say of them.
-/
import Derived.Test.YteempjinbolkaaaPrI
import Derived.Test.YteempjinbolkaaaPrK
namespace Go.Proofs.Yteempjinbolkaaa
open Go Go.Own Go.Proofs
set_option maxHeartbeats 4000000
set_option maxRecDepth 20000
set_option linter.unusedSimpArgs false
def leastOf (d : Int) (xs : List Int) : Int := xs.foldl min d
theorem leastOf_snoc (d : Int) (xs : List Int) (x : Int) : leastOf d (xs ++ [x]) = min (leastOf d xs) x := by simp [leastOf]
theorem leastOf_le (xs : List Int) : ∀ d, leastOf d xs ≤ d ∧ ∀ x ∈ xs, leastOf d xs ≤ x := by
  induction xs with
  | nil => intro d; exact ⟨by simp [leastOf], by simp⟩
  | cons y ys ih =>
    intro d
    have h := ih (min d y)
    refine ⟨by have := h.1; simp only [leastOf, List.foldl_cons] at *; omega, ?_⟩
    intro x hx
    rcases List.mem_cons.1 hx with e | e
    · subst e; have := h.1; simp only [leastOf, List.foldl_cons] at *; omega
    · exact h.2 x e
theorem den_Min (xs : List Int) (h : 0 < xs.length) : Den Try.prog 55 [ints xs] (.i (leastOf xs[0] xs)) := by
  refine den_of_awp Try.func55 rfl (by kernel_rfl) (Nat.le_of_ble_eq_true rfl) (by simp only [treeL, AVal.tree, treeL_i, treeL_ints, treeL_u8, treeL_append, Bool.and_self, Bool.and_true, Bool.true_and]) (by first | rfl | simp only [treeL, AVal.tree, treeL_i, treeL_ints, treeL_u8, treeL_append, Bool.and_self, Bool.and_true, Bool.true_and]) mixed (by kernel_rfl) fun hl => ?_
  simp only [lensL, lens, lensL_i, lensL_mapC, maxI, and_true, true_and] at hl
  rw [Try.ntmps55]
  refine ex_start ?_
  have hn : ¬ ((xs.length : Int) < 1) := by omega
  have h0 : (0 : Int) < xs.length := by omega
  simp (config := { maxSteps := 1000000 }) +decide only [NoH, Old, OldL, nilQ, nilA, RechL, ReY, isNew, stepO, XPost, postN, XOk, updN, updU, isEff, avalue, aeff, ASt.eval, ASt.put, ASt.set, ASt.new, Nat.reduceDiv, Nat.reduceAdd, Int.reduceToNat, absV, absC, scalar, alen, acap, conc, flats, live, blkOf, aload, rd, part?, afieldAddr, afield, aindexAddr, cellsOf, afill, places, abuild, optI, asliceV, asliceS, szOk, srcCells, aappend, astore, amakeSlice, abuildSlice, snapL, mapO, treeL, AVal.tree, AVal.flatT, isFlat, ares, isFz, afroz, afrozB, lookupA, lookupH, tops, if_true, if_false, reduceCtorEq, forall_const, ite_true, ite_false, implies_true, walkS, tabS, Try.results55, hn, h, h0]
  refine ex_loop (fun k : {k : Nat // 1 ≤ k ∧ k ≤ xs.length} => mk [(0, ints xs), (3, .i (leastOf xs[0] (xs.take k))), (4, .i k)] [] 0 25) (fun k => xs.length - k) ⟨1, by omega⟩ ?_ ?_
  · refine weak_mk rfl (by first | exact Nat.le_refl _ | (simp only [mk_gen]; omega)) ?_ ?_ <;> simp +decide only [w_lookup_nil, w_lookup_cons, ch_ch, ch_lit, lit_ch, wkT, wkH, wkB, WVL, WV_refl', Int.natCast_zero, Int.natCast_add, Int.natCast_one, Nat.sub_self, Nat.sub_zero, List.replicate_zero, List.take_zero, List.nil_append, List.append_nil, fillC_zero, Nat.reduceDiv, Nat.reduceAdd, upd_bk, bk_at, getB_zero, getB_succ, modB_zero, modB_succ, rows_lit, repB_zero, repB_succ, List.length_cons, List.length_nil, upd_upd_same, upd_apply, mk_tmp, mk_heap, mk_gen, lookupA, lookupH, List.getD_cons_zero, List.getD_cons_succ, init_two, tops, Bool.true_and, and_self, and_true, true_and, true_or, if_true, if_false, ite_true, ite_false, reduceCtorEq, reduceIte]
    exact WV_i _ _ (by rw [show xs.take 1 = [xs[0]] by rw [List.take_succ_eq_append_getElem h]; rfl]; simp [leastOf])
  · rintro ⟨k, hk1, hk⟩
    by_cases hlt : k < xs.length
    · have hw : IntKind.i64.wrap ((k : Int) + 1) = ((k + 1 : Nat) : Int) := wrap64 (by omega) (by omega)
      simp (config := { maxSteps := 1000000 }) +decide only [NoH, Old, OldL, nilQ, nilA, RechL, ReY, isNew, stepO, XPost, postN, XOk, updN, updU, isEff, avalue, aeff, ASt.eval, ASt.put, ASt.set, ASt.new, Nat.reduceDiv, Nat.reduceAdd, Int.reduceToNat, absV, absC, scalar, alen, acap, conc, flats, live, blkOf, aload, rd, part?, afieldAddr, afield, aindexAddr, cellsOf, afill, places, abuild, optI, asliceV, asliceS, szOk, srcCells, aappend, astore, amakeSlice, abuildSlice, snapL, mapO, treeL, AVal.tree, AVal.flatT, isFlat, ares, isFz, afroz, afrozB, lookupA, lookupH, tops, if_true, if_false, reduceCtorEq, forall_const, ite_true, ite_false, implies_true, walkS, tabS, Try.results55, hw, hlt, sem_min]
      refine ⟨⟨k + 1, by omega⟩, ?_, ?_⟩
      · refine weak_mk rfl (by first | exact Nat.le_refl _ | (simp only [mk_gen]; omega)) ?_ ?_ <;> simp +decide only [w_lookup_nil, w_lookup_cons, ch_ch, ch_lit, lit_ch, wkT, wkH, wkB, WVL, WV_refl', Int.natCast_zero, Int.natCast_add, Int.natCast_one, Nat.sub_self, Nat.sub_zero, List.replicate_zero, List.take_zero, List.nil_append, List.append_nil, fillC_zero, Nat.reduceDiv, Nat.reduceAdd, upd_bk, bk_at, getB_zero, getB_succ, modB_zero, modB_succ, rows_lit, repB_zero, repB_succ, List.length_cons, List.length_nil, upd_upd_same, upd_apply, mk_tmp, mk_heap, mk_gen, lookupA, lookupH, List.getD_cons_zero, List.getD_cons_succ, init_two, tops, Bool.true_and, and_self, and_true, true_and, true_or, if_true, if_false, ite_true, ite_false, reduceCtorEq, reduceIte, List.take_succ_eq_append_getElem hlt, leastOf_snoc]
      · show _ - (k + 1) < _ - k
        omega
    · have e : k = xs.length := by omega
      subst e
      simp (config := { maxSteps := 1000000 }) +decide only [NoH, Old, OldL, nilQ, nilA, RechL, ReY, isNew, stepO, XPost, postN, XOk, updN, updU, isEff, avalue, aeff, ASt.eval, ASt.put, ASt.set, ASt.new, Nat.reduceDiv, Nat.reduceAdd, Int.reduceToNat, absV, absC, scalar, alen, acap, conc, flats, live, blkOf, aload, rd, part?, afieldAddr, afield, aindexAddr, cellsOf, afill, places, abuild, optI, asliceV, asliceS, szOk, srcCells, aappend, astore, amakeSlice, abuildSlice, snapL, mapO, treeL, AVal.tree, AVal.flatT, isFlat, ares, isFz, afroz, afrozB, lookupA, lookupH, tops, if_true, if_false, reduceCtorEq, forall_const, ite_true, ite_false, implies_true, walkS, tabS, Try.results55, hlt, List.take_length]
theorem den_SpanOf (r : List Int) (h : 0 < r.length) (hr : ∀ x ∈ r, 0 ≤ x ∧ x ≤ 999) : Den Try.prog 13 [ints r] (.i (mostOf r[0] r - leastOf r[0] r)) := by
  refine den_of_awp Try.func13 rfl (by kernel_rfl) (Nat.le_of_ble_eq_true rfl) (by simp only [treeL, AVal.tree, treeL_i, treeL_ints, treeL_u8, treeL_append, Bool.and_self, Bool.and_true, Bool.true_and]) (by first | rfl | simp only [treeL, AVal.tree, treeL_i, treeL_ints, treeL_u8, treeL_append, Bool.and_self, Bool.and_true, Bool.true_and]) mixed (by kernel_rfl) fun hl => ?_
  simp only [lensL, lens, lensL_i, lensL_mapC, maxI, and_true, true_and] at hl
  rw [Try.ntmps13]
  refine ex_start ?_
  have c0 : ¬ (r.length : Int) = 0 := by omega
  have c1 : ¬ r.length = 0 := by omega
  have b1 : mostOf r[0] r ≤ 999 ∧ 0 ≤ mostOf r[0] r := by
    rcases mostOf_in r r[0] with e | e
    · rw [e]; have := hr _ (List.getElem_mem h); omega
    · have := hr _ e; omega
  have b2 := leastOf_le r r[0]
  have b3 : 0 ≤ leastOf r[0] r := by
    have : ∀ (xs : List Int) (d : Int), 0 ≤ d → (∀ x ∈ xs, 0 ≤ x) → 0 ≤ leastOf d xs := by
      intro xs
      induction xs with
      | nil => intro d h _; exact h
      | cons y ys ih => intro d h hx; exact ih (min d y) (by have := hx y (by simp); omega) fun x hx' => hx x (by simp [hx'])
    exact this r _ (hr _ (List.getElem_mem h)).1 fun x hx => (hr x hx).1
  have b4 := (hr _ (List.getElem_mem h)).2
  have w1 : IntKind.i64.wrap (mostOf r[0] r - leastOf r[0] r) = mostOf r[0] r - leastOf r[0] r := wrap64 (by omega) (by omega)
  simp (config := { maxSteps := 1000000 }) +decide only [NoH, Old, OldL, nilQ, nilA, RechL, ReY, isNew, stepO, XPost, postN, XOk, updN, updU, isEff, avalue, aeff, ASt.eval, ASt.put, ASt.set, ASt.new, Nat.reduceDiv, Nat.reduceAdd, Int.reduceToNat, absV, absC, scalar, alen, acap, conc, flats, live, blkOf, aload, rd, part?, afieldAddr, afield, aindexAddr, cellsOf, afill, places, abuild, optI, asliceV, asliceS, szOk, srcCells, aappend, astore, amakeSlice, abuildSlice, snapL, mapO, treeL, AVal.tree, AVal.flatT, isFlat, ares, isFz, afroz, afrozB, lookupA, lookupH, tops, if_true, if_false, reduceCtorEq, forall_const, ite_true, ite_false, implies_true, walkS, tabS, Try.results13, eq_false c0, eq_false c1]
  refine callK (den_allWithin r 0 999) (by first | exact .inl rfl | exact .inr rfl) ?_
  simp (config := { maxSteps := 1000000 }) +decide only [NoH, Old, OldL, nilQ, nilA, RechL, ReY, isNew, stepO, XPost, postN, XOk, updN, updU, isEff, avalue, aeff, ASt.eval, ASt.put, ASt.set, ASt.new, Nat.reduceDiv, Nat.reduceAdd, Int.reduceToNat, absV, absC, scalar, alen, acap, conc, flats, live, blkOf, aload, rd, part?, afieldAddr, afield, aindexAddr, cellsOf, afill, places, abuild, optI, asliceV, asliceS, szOk, srcCells, aappend, astore, amakeSlice, abuildSlice, snapL, mapO, treeL, AVal.tree, AVal.flatT, isFlat, ares, isFz, afroz, afrozB, lookupA, lookupH, tops, if_true, if_false, reduceCtorEq, forall_const, ite_true, ite_false, implies_true, walkS, tabS, Try.results13, eq_true hr]
  refine callK (den_Max r h) (by first | exact .inl rfl | exact .inr rfl) ?_
  simp (config := { maxSteps := 1000000 }) +decide only [NoH, Old, OldL, nilQ, nilA, RechL, ReY, isNew, stepO, XPost, postN, XOk, updN, updU, isEff, avalue, aeff, ASt.eval, ASt.put, ASt.set, ASt.new, Nat.reduceDiv, Nat.reduceAdd, Int.reduceToNat, absV, absC, scalar, alen, acap, conc, flats, live, blkOf, aload, rd, part?, afieldAddr, afield, aindexAddr, cellsOf, afill, places, abuild, optI, asliceV, asliceS, szOk, srcCells, aappend, astore, amakeSlice, abuildSlice, snapL, mapO, treeL, AVal.tree, AVal.flatT, isFlat, ares, isFz, afroz, afrozB, lookupA, lookupH, tops, if_true, if_false, reduceCtorEq, forall_const, ite_true, ite_false, implies_true, walkS, tabS, Try.results13]
  refine callK (den_Min r h) (by first | exact .inl rfl | exact .inr rfl) ?_
  simp (config := { maxSteps := 1000000 }) +decide only [NoH, Old, OldL, nilQ, nilA, RechL, ReY, isNew, stepO, XPost, postN, XOk, updN, updU, isEff, avalue, aeff, ASt.eval, ASt.put, ASt.set, ASt.new, Nat.reduceDiv, Nat.reduceAdd, Int.reduceToNat, absV, absC, scalar, alen, acap, conc, flats, live, blkOf, aload, rd, part?, afieldAddr, afield, aindexAddr, cellsOf, afill, places, abuild, optI, asliceV, asliceS, szOk, srcCells, aappend, astore, amakeSlice, abuildSlice, snapL, mapO, treeL, AVal.tree, AVal.flatT, isFlat, ares, isFz, afroz, afrozB, lookupA, lookupH, tops, if_true, if_false, reduceCtorEq, forall_const, ite_true, ite_false, implies_true, walkS, tabS, Try.results13, w1]
/-! ### plain -/
theorem span_pw (d M : Int) (hd : 0 ≤ d) : ∀ (fs : List Int) (m : Int), fs.Pairwise (fun a b => a + d ≤ b) → (∀ x ∈ fs, m ≤ x ∧ x ≤ M) → 1 ≤ fs.length → d * ((fs.length : Int) - 1) ≤ M - m
  | [], _, _, _, h => by simp at h
  | [a], m, _, hb, _ => by
    have := hb a (by simp)
    simp only [List.length_cons, List.length_nil]
    omega
  | a :: b :: l, m, hp, hb, _ => by
    obtain ⟨h1, h2⟩ := List.pairwise_cons.1 hp
    have ha := hb a (by simp)
    have := span_pw d M hd (b :: l) (a + d) h2 (fun x hx => ⟨h1 x hx, (hb x (by simp only [List.mem_cons] at hx ⊢; exact .inr hx)).2⟩) (by simp)
    have e : (((a :: b :: l).length : Nat) : Int) - 1 = (((b :: l).length : Nat) : Int) - 1 + 1 := by simp only [List.length_cons]; omega
    rw [e, Int.mul_add, Int.mul_one]
    omega
theorem span_ab {fs : List Int} {d m M : Int} (hd : 0 ≤ d) (hp : fs.Pairwise fun a b => d ≤ a - b ∨ d ≤ b - a) (hb : ∀ x ∈ fs, m ≤ x ∧ x ≤ M) (h1 : 1 ≤ fs.length) : d * ((fs.length : Int) - 1) ≤ M - m := by
  have hq : (sortI fs).Pairwise fun a b => d ≤ a - b ∨ d ≤ b - a := ((sortI_perm fs).pairwise_iff fun {a b} h => by omega).2 hp
  have hs := sortI_pairwise fs
  have hr : (sortI fs).Pairwise fun a b => a + d ≤ b := (hs.and hq).imp fun h => by omega
  have := span_pw d M hd (sortI fs) m hr (fun x hx => hb x (sortI_mem.1 hx)) (by rw [sortI_length]; exact h1)
  rw [sortI_length] at this
  exact this
section
variable {D A : List (List Int)} (h : PrD D A)
include h
theorem ap_mem {x y : Int} (hx : 0 ≤ x ∧ x < A.length) (hy : 0 ≤ y ∧ y < A.length) : ap A x y ∈ A.flatten ∧ 0 ≤ ap A x y ∧ ap A x y ≤ 3 ∧ ap A y x = ap A x y := by
  obtain ⟨n, rfl⟩ := Int.eq_ofNat_of_zero_le hx.1
  obtain ⟨m, rfl⟩ := Int.eq_ofNat_of_zero_le hy.1
  have hn : n < A.length := by omega
  have hm : m < A.length := by omega
  have hl := h.len
  have hr := h.rl hn
  have hmr : m < A[n].length := by omega
  have e : ap A (n : Int) (m : Int) = A[n][m] := by
    unfold ap
    rw [Int.toNat_natCast, Int.toNat_natCast]
    exact gdd hn hmr
  have hi := h.in3 hn hmr
  refine ⟨by rw [e]; exact List.mem_flatten.2 ⟨A[n], List.getElem_mem hn, List.getElem_mem hmr⟩, by omega, by omega, ?_⟩
  unfold ap
  rw [Int.toNat_natCast, Int.toNat_natCast]
  exact h.sym m n (by omega) (by omega)
theorem clq_up {K : List Int} (hK : 1 < K.length) : ∀ (f : Nat) (a : Int), 4 - a ≤ f → Clq A a K → ∃ d, a ≤ d ∧ d ∈ A.flatten ∧ Clq A d K
  | 0, a, hf, hc => by
    have h0 : 0 < K.length := by omega
    have := List.pairwise_iff_getElem.1 hc.pw 0 1 h0 hK (by omega)
    have := (ap_mem h (hc.rg _ (List.getElem_mem h0)) (hc.rg _ (List.getElem_mem hK))).2.2.1
    omega
  | f + 1, a, hf, hc => by
    by_cases hn : Clq A (a + 1) K
    · obtain ⟨d, h1, h2, h3⟩ := clq_up hK f (a + 1) (by omega) hn
      exact ⟨d, by omega, h2, h3⟩
    · by_cases hex : ∃ (i j : Nat) (hi : i < K.length) (hj : j < K.length), i < j ∧ ap A K[i] K[j] = a
      · obtain ⟨i, j, hi, hj, _, e⟩ := hex
        exact ⟨a, Int.le_refl _, by rw [← e]; exact (ap_mem h (hc.rg _ (List.getElem_mem hi)) (hc.rg _ (List.getElem_mem hj))).1, hc⟩
      · refine absurd ⟨List.pairwise_iff_getElem.2 fun i j hi hj hij => ?_, hc.rg⟩ hn
        have h1 := List.pairwise_iff_getElem.1 hc.pw i j hi hj hij
        have h2 : ¬ ap A K[i] K[j] = a := fun e => hex ⟨i, j, hi, hj, hij, e⟩
        exact ⟨h1.1, by omega⟩
theorem clq_span {K r : List Int} {d s : Int} (hd : 0 ≤ d) (hK : Clq A d K) (hr : Asg D A r) (hs : ∀ x ∈ r, ∀ y ∈ r, x - y ≤ s) : d * ((K.length : Int) - 1) ≤ s := by
  have hp := h.pos
  have hrl := hr.len
  have hl := h.len
  have h0 : 0 < r.length := by omega
  have hs0 := hs _ (List.getElem_mem h0) _ (List.getElem_mem h0)
  by_cases hk : K.length = 0
  · rw [hk]
    simp only [Int.ofNat_zero]
    omega
  have hidx : ∀ x ∈ K, ∃ (n : Nat) (hn : n < r.length), x = n ∧ r.getD x.toNat 0 = r[n] := fun x hx => by
    have := hK.rg x hx
    refine ⟨x.toNat, by omega, by omega, ?_⟩
    rw [List.getD_eq_getElem?_getD, List.getElem?_eq_getElem (by omega), Option.getD_some]
  have hmm : ∀ y ∈ K.map (fun x => r.getD x.toNat 0), leastOf r[0] r ≤ y ∧ y ≤ leastOf r[0] r + s := fun y hy => by
    obtain ⟨x, hx, rfl⟩ := List.mem_map.1 hy
    obtain ⟨n, hn, _, e⟩ := hidx x hx
    show leastOf r[0] r ≤ r.getD x.toNat 0 ∧ _
    rw [e]
    refine ⟨(leastOf_le r r[0]).2 _ (List.getElem_mem hn), ?_⟩
    have hin : leastOf r[0] r ∈ r := by
      have : ∀ (xs : List Int) (c : Int), leastOf c xs = c ∨ leastOf c xs ∈ xs := by
        intro xs
        induction xs with
        | nil => intro c; exact .inl rfl
        | cons y ys ih =>
          intro c
          rcases ih (min c y) with h | h
          · have e : leastOf c (y :: ys) = min c y := h
            rw [e]
            by_cases g : c ≤ y
            · left; omega
            · right; rw [show min c y = y by omega]; simp
          · right
            have e : leastOf c (y :: ys) = leastOf (min c y) ys := rfl
            rw [e]
            simp [h]
      rcases this r r[0] with e | e
      · rw [e]; exact List.getElem_mem h0
      · exact e
    have := hs _ (List.getElem_mem hn) _ hin
    omega
  have hpw : (K.map fun x => r.getD x.toNat 0).Pairwise fun a b => d ≤ a - b ∨ d ≤ b - a := by
    rw [List.pairwise_map]
    refine List.pairwise_iff_getElem.2 fun i j hi hj hij => ?_
    have h1 := List.pairwise_iff_getElem.1 hK.pw i j hi hj hij
    obtain ⟨n, hn, en, e1⟩ := hidx _ (List.getElem_mem hi)
    obtain ⟨m, hm, em, e2⟩ := hidx _ (List.getElem_mem hj)
    rw [e1, e2]
    have h2 := hr.part.far m hm n (by omega)
    have h3 := (ap_mem h (x := K[i]) (y := K[j]) (hK.rg _ (List.getElem_mem hi)) (hK.rg _ (List.getElem_mem hj))).2.2.2
    rw [em, en] at h3
    rw [en, em] at h1
    unfold Near at h2
    omega
  have := span_ab hd hpw hmm (by simp; omega)
  rw [List.length_map] at this
  omega
theorem asg_in {r : List Int} (hr : Asg D A r) : ∀ x ∈ r, 0 ≤ x ∧ x ≤ 11 := fun x hx => by
  obtain ⟨k, hk, rfl⟩ := List.getElem_of_mem hx
  exact part_small h hr.part (by rw [hr.len]; exact Nat.le_refl _) k hk
end
end Go.Proofs.Yteempjinbolkaaa
