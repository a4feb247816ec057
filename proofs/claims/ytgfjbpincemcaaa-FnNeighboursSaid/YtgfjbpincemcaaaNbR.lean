/-
  OWN WORK: neighbours by place.
-/
import Derived.Test.YtgfjbpincemcaaaNbG
import Derived.Test.YtgfjbpincemcaaaPt
import Derived.Test.YtgfjbpincemcaaaRt
namespace Go.Proofs.Ytgfjbpincemcaaa
open Go Go.Own Go.Proofs
set_option maxHeartbeats 4000000
set_option maxRecDepth 20000
set_option linter.unusedSimpArgs false
def px (L : List Int) (k : Nat) : Int := L.getD (k * 2) 0
def py (L : List Int) (k : Nat) : Int := L.getD (k * 2 + 1) 0
theorem pt_ld' {L : List Int} {k : Nat} (h : k * 2 + 2 ≤ L.length) : mapC AVal.i (List.take 2 (List.drop (k * 2) L)) = [.i (px L k), .i (py L k)] := pt_ld h
def npQ (L : List Int) (reach : Int) (i k : Int) : Prop := i ≠ k ∧ dst (px L i.toNat) (py L i.toNat) (px L k.toNat) (py L k.toNat) ≤ reach
def OkPts (L : List Int) (n : Nat) : Prop := n ≤ 24 ∧ ∀ k : Nat, k < n → OkPt (px L k) (py L k)
def ReachOk (r : Int) : Prop := 0 ≤ r ∧ r ≤ 283000
noncomputable def npL (L : List Int) (n : Nat) (reach : Int) : List (List Int) := if bp (OkPts L n ∧ ReachOk reach) then itR (npQ L reach) n n else []
noncomputable def npC (L : List Int) (n : Nat) (reach : Int) : Int := if bp (OkPts L n) then (if bp (ReachOk reach) then 0 else 2) else 1
section
variable {L : List Int} {n : Nat} {reach : Int}
theorem np_yes (h1 : OkPts L n) (h2 : ReachOk reach) : npL L n reach = itR (npQ L reach) n n ∧ npC L n reach = 0 := by
  unfold npL npC
  rw [if_pos (by rw [bp_true]; exact ⟨h1, h2⟩), if_pos (by rw [bp_true]; exact h1), if_pos (by rw [bp_true]; exact h2)]
  exact ⟨rfl, rfl⟩
theorem np_rch (h1 : OkPts L n) (h2 : ¬ ReachOk reach) : npL L n reach = [] ∧ npC L n reach = 2 := by
  unfold npL npC
  rw [if_neg (by rw [bp_true]; exact fun h => h2 h.2), if_pos (by rw [bp_true]; exact h1), if_neg (by rw [bp_true]; exact h2)]
  exact ⟨rfl, rfl⟩
theorem np_no (h1 : ¬ OkPts L n) : npL L n reach = [] ∧ npC L n reach = 1 := by
  unfold npL npC
  rw [if_neg (by rw [bp_true]; exact fun h => h1 h.1), if_neg (by rw [bp_true]; exact h1)]
  exact ⟨rfl, rfl⟩
end
theorem npB (L : List Int) (n : Nat) (reach : Int) : RowsB (npL L n reach) := by
  have key : (npL L n reach).length ≤ 24 ∧ ∀ x ∈ npL L n reach, x.length ≤ 24 := by
    by_cases h : OkPts L n ∧ ReachOk reach
    · rw [(np_yes h.1 h.2).1]
      have := h.1.1
      exact ⟨by rw [itR_length]; omega, fun x hx => by have := itR_le (npQ L reach) _ _ x hx; omega⟩
    · unfold npL
      rw [if_neg (by rw [bp_true]; exact h)]
      exact ⟨by simp, by simp⟩
  have tot : ∀ l : List (List Int), (∀ x ∈ l, x.length ≤ 24) → tot0 l ≤ 24 * l.length := by
    intro l
    induction l with
    | nil => intro _; simp [tot0]
    | cons y l ih =>
      intro h
      have h1 := h y (by simp)
      have h2 := ih fun x hx => h x (by simp [hx])
      simp only [tot0, List.map_cons, List.sum_cons, List.length_cons] at h2 ⊢
      omega
  have h3 := tot _ key.2
  exact ⟨by omega, fun x hx => by have := key.2 x hx; omega, by omega⟩
theorem first_ex (p : Nat → Prop) : ∀ n : Nat, (∃ k, k < n ∧ p k ∧ ∀ j, j < k → ¬ p j) ∨ ∀ k, k < n → ¬ p k
  | 0 => .inr fun k hk => absurd hk (Nat.not_lt_zero _)
  | n + 1 => by
    rcases first_ex p n with ⟨k, h1, h2⟩ | h
    · exact .inl ⟨k, by omega, h2⟩
    · by_cases hp : p n
      · exact .inl ⟨n, by omega, hp, h⟩
      · refine .inr fun k hk => ?_
        by_cases e : k = n
        · subst e; exact hp
        · exact h k (by omega)
theorem den_IndexPts (L : List Int) (n : Nat) (f : FuncId) (p : Nat → Prop) (r : Int) (hL : L.length = n * 2) (hp : ∀ k : Nat, k < n → Den Try.prog f [pointV (px L k) (py L k)] (.b (bp (p k)))) (hr : (∃ k : Nat, r = k ∧ k < n ∧ p k ∧ ∀ j, j < k → ¬ p j) ∨ (r = -1 ∧ ∀ k, k < n → ¬ p k)) :
    Den Try.prog 41 [pointsV L n, .clo f []] (.i r) := by
  refine den_of_awp Try.func41 rfl (by kernel_rfl) (Nat.le_of_ble_eq_true rfl) (by simp only [treeL, AVal.tree, treeL_i, Bool.and_self, Bool.and_true]) rfl mixed (by kernel_rfl) fun hl => ?_
  simp only [lensL, lens, lensL_i, lensL_mapC, maxI, and_true, true_and] at hl
  rw [Try.ntmps41]
  refine ex_start ?_
  simp (config := { maxSteps := 1000000 }) +decide only [NoH, Old, OldL, nilQ, nilA, RechL, ReY, isNew, stepO, XPost, postN, XOk, updN, updU, isEff, avalue, aeff, ASt.eval, ASt.put, ASt.set, ASt.new, Nat.reduceDiv, Nat.reduceAdd, Int.reduceToNat, absV, absC, scalar, alen, acap, conc, flats, live, blkOf, aload, rd, part?, afieldAddr, afield, aindexAddr, cellsOf, afill, places, abuild, optI, asliceV, asliceS, szOk, srcCells, aappend, astore, amakeSlice, abuildSlice, snapL, mapO, treeL, AVal.tree, AVal.flatT, isFlat, ares, isFz, afroz, afrozB, lookupA, lookupH, tops, if_true, if_false, reduceCtorEq, forall_const, ite_true, ite_false, implies_true, walkS, tabS, Try.results41]
  refine ex_loop (fun k : {k : Nat // k ≤ n ∧ ∀ j, j < k → ¬ p j} => mk [(0, pointsV L n), (1, .clo f []), (7, .i n), (8, .i k)] [] 0 19) (fun k => n - k) ⟨0, by simp⟩ ?_ ?_
  · refine weak_mk rfl (by first | exact Nat.le_refl _ | (simp only [mk_gen]; omega)) ?_ ?_ <;> simp +decide only [w_lookup_nil, w_lookup_cons, ch_ch, ch_lit, lit_ch, wkT, wkH, wkB, WVL, WV_refl', Int.natCast_zero, Int.natCast_add, Int.natCast_one, Nat.sub_self, Nat.sub_zero, List.replicate_zero, List.take_zero, List.nil_append, List.append_nil, fillC_zero, Nat.reduceDiv, Nat.reduceAdd, upd_bk, bk_at, getB_zero, getB_succ, modB_zero, modB_succ, rows_lit, repB_zero, repB_succ, List.length_cons, List.length_nil, upd_upd_same, upd_apply, mk_tmp, mk_heap, mk_gen, lookupA, lookupH, List.getD_cons_zero, List.getD_cons_succ, init_two, tops, Bool.true_and, and_self, and_true, true_and, true_or, if_true, if_false, ite_true, ite_false, reduceCtorEq, reduceIte]
  · rintro ⟨k, hk, hkk⟩
    by_cases hlt : k < n
    · have hw : IntKind.i64.wrap ((k : Int) + 1) = ((k + 1 : Nat) : Int) := wrap64 (by omega) (by omega)
      have hr1 : k * 2 + 2 ≤ L.length := by omega
      have hc3 : (k + 1) * 2 ≤ n * 2 := by omega
      have hc2 : k * 2 + 2 ≤ n * 2 := by omega
      have e1 := pt_ld' hr1
      simp (config := { maxSteps := 1000000 }) +decide only [NoH, Old, OldL, nilQ, nilA, RechL, ReY, isNew, stepO, XPost, postN, XOk, updN, updU, isEff, avalue, aeff, ASt.eval, ASt.put, ASt.set, ASt.new, Nat.reduceDiv, Nat.reduceAdd, Int.reduceToNat, absV, absC, scalar, alen, acap, conc, flats, live, blkOf, aload, rd, part?, afieldAddr, afield, aindexAddr, cellsOf, afill, places, abuild, optI, asliceV, asliceS, szOk, srcCells, aappend, astore, amakeSlice, abuildSlice, snapL, mapO, treeL, AVal.tree, AVal.flatT, isFlat, ares, isFz, afroz, afrozB, lookupA, lookupH, tops, if_true, if_false, reduceCtorEq, forall_const, ite_true, ite_false, implies_true, walkS, tabS, Try.results41, hw, hlt, hc2, hc3, e1, hL]
      refine callK (hp k hlt) (by first | exact .inl rfl | exact .inr rfl) ?_
      by_cases h2 : p k
      · have e : r = k := by
          rcases hr with ⟨j, e, h3, h4, h5⟩ | ⟨_, h3⟩
          · rcases Nat.lt_trichotomy j k with h | h | h
            · exact (hkk j h h4).elim
            · rw [e, h]
            · exact (h5 k h h2).elim
          · exact (h3 k hlt h2).elim
        simp (config := { maxSteps := 1000000 }) +decide only [NoH, Old, OldL, nilQ, nilA, RechL, ReY, isNew, stepO, XPost, postN, XOk, updN, updU, isEff, avalue, aeff, ASt.eval, ASt.put, ASt.set, ASt.new, Nat.reduceDiv, Nat.reduceAdd, Int.reduceToNat, absV, absC, scalar, alen, acap, conc, flats, live, blkOf, aload, rd, part?, afieldAddr, afield, aindexAddr, cellsOf, afill, places, abuild, optI, asliceV, asliceS, szOk, srcCells, aappend, astore, amakeSlice, abuildSlice, snapL, mapO, treeL, AVal.tree, AVal.flatT, isFlat, ares, isFz, afroz, afrozB, lookupA, lookupH, tops, if_true, if_false, reduceCtorEq, forall_const, ite_true, ite_false, implies_true, walkS, tabS, Try.results41, eq_true h2, e]
      · simp (config := { maxSteps := 1000000 }) +decide only [NoH, Old, OldL, nilQ, nilA, RechL, ReY, isNew, stepO, XPost, postN, XOk, updN, updU, isEff, avalue, aeff, ASt.eval, ASt.put, ASt.set, ASt.new, Nat.reduceDiv, Nat.reduceAdd, Int.reduceToNat, absV, absC, scalar, alen, acap, conc, flats, live, blkOf, aload, rd, part?, afieldAddr, afield, aindexAddr, cellsOf, afill, places, abuild, optI, asliceV, asliceS, szOk, srcCells, aappend, astore, amakeSlice, abuildSlice, snapL, mapO, treeL, AVal.tree, AVal.flatT, isFlat, ares, isFz, afroz, afrozB, lookupA, lookupH, tops, if_true, if_false, reduceCtorEq, forall_const, ite_true, ite_false, implies_true, walkS, tabS, Try.results41, eq_false h2, hw]
        refine ⟨⟨k + 1, hlt, fun j hj => ?_⟩, ?_, by show _ - (k + 1) < _ - k; omega⟩
        · by_cases e : j = k
          · subst e; exact h2
          · exact hkk j (by omega)
        · refine weak_mk rfl (by first | exact Nat.le_refl _ | (simp only [mk_gen]; omega)) ?_ ?_ <;> simp +decide only [w_lookup_nil, w_lookup_cons, ch_ch, ch_lit, lit_ch, wkT, wkH, wkB, WVL, WV_refl', Int.natCast_zero, Int.natCast_add, Int.natCast_one, Nat.sub_self, Nat.sub_zero, List.replicate_zero, List.take_zero, List.nil_append, List.append_nil, fillC_zero, Nat.reduceDiv, Nat.reduceAdd, upd_bk, bk_at, getB_zero, getB_succ, modB_zero, modB_succ, rows_lit, repB_zero, repB_succ, List.length_cons, List.length_nil, upd_upd_same, upd_apply, mk_tmp, mk_heap, mk_gen, lookupA, lookupH, List.getD_cons_zero, List.getD_cons_succ, init_two, tops, Bool.true_and, and_self, and_true, true_and, true_or, if_true, if_false, ite_true, ite_false, reduceCtorEq, reduceIte]
    · have e : r = -1 := by
        rcases hr with ⟨j, e, h3, h4, h5⟩ | ⟨h, _⟩
        · exact (hkk j (by omega) h4).elim
        · exact h
      simp (config := { maxSteps := 1000000 }) +decide only [NoH, Old, OldL, nilQ, nilA, RechL, ReY, isNew, stepO, XPost, postN, XOk, updN, updU, isEff, avalue, aeff, ASt.eval, ASt.put, ASt.set, ASt.new, Nat.reduceDiv, Nat.reduceAdd, Int.reduceToNat, absV, absC, scalar, alen, acap, conc, flats, live, blkOf, aload, rd, part?, afieldAddr, afield, aindexAddr, cellsOf, afill, places, abuild, optI, asliceV, asliceS, szOk, srcCells, aappend, astore, amakeSlice, abuildSlice, snapL, mapO, treeL, AVal.tree, AVal.flatT, isFlat, ares, isFz, afroz, afrozB, lookupA, lookupH, tops, if_true, if_false, reduceCtorEq, forall_const, ite_true, ite_false, implies_true, walkS, tabS, Try.results41, hlt, e]
theorem den_ContainsPts (L : List Int) (n : Nat) (f : FuncId) (p : Nat → Prop) (hL : L.length = n * 2) (hp : ∀ k : Nat, k < n → Den Try.prog f [pointV (px L k) (py L k)] (.b (bp (p k)))) :
    Den Try.prog 28 [pointsV L n, .clo f []] (.b (bp (∃ k, k < n ∧ p k))) := by
  refine den_of_awp Try.func28 rfl (by kernel_rfl) (Nat.le_of_ble_eq_true rfl) (by simp only [treeL, AVal.tree, treeL_i, Bool.and_self, Bool.and_true]) rfl mixed (by kernel_rfl) fun hl => ?_
  rw [Try.ntmps28]
  refine ex_start ?_
  simp (config := { maxSteps := 1000000 }) +decide only [NoH, Old, OldL, nilQ, nilA, RechL, ReY, isNew, stepO, XPost, postN, XOk, updN, updU, isEff, avalue, aeff, ASt.eval, ASt.put, ASt.set, ASt.new, Nat.reduceDiv, Nat.reduceAdd, Int.reduceToNat, absV, absC, scalar, alen, acap, conc, flats, live, blkOf, aload, rd, part?, afieldAddr, afield, aindexAddr, cellsOf, afill, places, abuild, optI, asliceV, asliceS, szOk, srcCells, aappend, astore, amakeSlice, abuildSlice, snapL, mapO, treeL, AVal.tree, AVal.flatT, isFlat, ares, isFz, afroz, afrozB, lookupA, lookupH, tops, if_true, if_false, reduceCtorEq, forall_const, ite_true, ite_false, implies_true, walkS, tabS, Try.results28]
  rcases first_ex p n with ⟨k, h1, h2, h3⟩ | h
  · have hv : ∃ k, k < n ∧ p k := ⟨k, h1, h2⟩
    refine callK (den_IndexPts L n f p k hL hp (.inl ⟨k, rfl, h1, h2, h3⟩)) (by first | exact .inl rfl | exact .inr rfl) ?_
    simp (config := { maxSteps := 1000000 }) +decide only [NoH, Old, OldL, nilQ, nilA, RechL, ReY, isNew, stepO, XPost, postN, XOk, updN, updU, isEff, avalue, aeff, ASt.eval, ASt.put, ASt.set, ASt.new, Nat.reduceDiv, Nat.reduceAdd, Int.reduceToNat, absV, absC, scalar, alen, acap, conc, flats, live, blkOf, aload, rd, part?, afieldAddr, afield, aindexAddr, cellsOf, afill, places, abuild, optI, asliceV, asliceS, szOk, srcCells, aappend, astore, amakeSlice, abuildSlice, snapL, mapO, treeL, AVal.tree, AVal.flatT, isFlat, ares, isFz, afroz, afrozB, lookupA, lookupH, tops, if_true, if_false, reduceCtorEq, forall_const, ite_true, ite_false, implies_true, walkS, tabS, Try.results28, eq_true hv]
  · have hv : ¬ ∃ k, k < n ∧ p k := fun ⟨k, h1, h2⟩ => h k h1 h2
    refine callK (den_IndexPts L n f p (-1) hL hp (.inr ⟨rfl, h⟩)) (by first | exact .inl rfl | exact .inr rfl) ?_
    simp (config := { maxSteps := 1000000 }) +decide only [NoH, Old, OldL, nilQ, nilA, RechL, ReY, isNew, stepO, XPost, postN, XOk, updN, updU, isEff, avalue, aeff, ASt.eval, ASt.put, ASt.set, ASt.new, Nat.reduceDiv, Nat.reduceAdd, Int.reduceToNat, absV, absC, scalar, alen, acap, conc, flats, live, blkOf, aload, rd, part?, afieldAddr, afield, aindexAddr, cellsOf, afill, places, abuild, optI, asliceV, asliceS, szOk, srcCells, aappend, astore, amakeSlice, abuildSlice, snapL, mapO, treeL, AVal.tree, AVal.flatT, isFlat, ares, isFz, afroz, afrozB, lookupA, lookupH, tops, if_true, if_false, reduceCtorEq, forall_const, ite_true, ite_false, implies_true, walkS, tabS, Try.results28, eq_false hv]
theorem den_np1 (x y : Int) : Den Try.prog 29 [pointV x y] (.b (bp (¬ OkPt x y))) := by
  refine den_of_awpG (ghs [] [1]) Try.func29 rfl (by kernel_rfl) (Nat.le_of_ble_eq_true rfl) (by simp only [treeL, AVal.tree, treeL_i, treeL_ints, treeL_u8, treeL_append, Bool.and_self, Bool.and_true, Bool.true_and]) (by first | rfl | simp only [treeL, AVal.tree, treeL_i, treeL_ints, treeL_u8, treeL_append, Bool.and_self, Bool.and_true, Bool.true_and]) mixed (by kernel_rfl) fun hl => ?_
  simp only [lensL, lens, lensL_i, lensL_mapC, maxI, and_true, true_and] at hl
  rw [Try.ntmps29]
  refine ex_start ?_
  simp (config := { maxSteps := 1000000 }) +decide only [NoH, Old, OldL, nilQ, nilA, RechL, ReY, isNew, stepO, XPost, postN, XOk, updN, updU, isEff, avalue, aeff, ASt.eval, ASt.put, ASt.set, ASt.new, Nat.reduceDiv, Nat.reduceAdd, Int.reduceToNat, absV, absC, scalar, alen, acap, conc, flats, live, blkOf, aload, rd, part?, afieldAddr, afield, aindexAddr, cellsOf, afill, places, abuild, optI, asliceV, asliceS, szOk, srcCells, aappend, astore, amakeSlice, abuildSlice, snapL, mapO, treeL, AVal.tree, AVal.flatT, isFlat, ares, isFz, afroz, afrozB, lookupA, lookupH, tops, if_true, if_false, reduceCtorEq, forall_const, ite_true, ite_false, implies_true, walkS, tabS, Try.results29]
  refine callK (den_implValidPoint x y) (by first | exact .inl rfl | exact .inr rfl) ?_
  simp (config := { maxSteps := 1000000 }) +decide only [NoH, Old, OldL, nilQ, nilA, RechL, ReY, isNew, stepO, XPost, postN, XOk, updN, updU, isEff, avalue, aeff, ASt.eval, ASt.put, ASt.set, ASt.new, Nat.reduceDiv, Nat.reduceAdd, Int.reduceToNat, absV, absC, scalar, alen, acap, conc, flats, live, blkOf, aload, rd, part?, afieldAddr, afield, aindexAddr, cellsOf, afill, places, abuild, optI, asliceV, asliceS, szOk, srcCells, aappend, astore, amakeSlice, abuildSlice, snapL, mapO, treeL, AVal.tree, AVal.flatT, isFlat, ares, isFz, afroz, afrozB, lookupA, lookupH, tops, if_true, if_false, reduceCtorEq, forall_const, ite_true, ite_false, implies_true, walkS, tabS, Try.results29]
  try exact not_bp _
theorem den_np2 (L : List Int) (n : Nat) (reach : Int) (hL : L.length = n * 2) (hok : OkPts L n) (i k : Nat) (hi : i < n) (hk : k < n) : Den Try.prog 32 [.i i, .i k, .iptr [pointsV L n] 0, .iptr [.i reach] 0] (.b (bp (npQ L reach i k))) := by
  refine den_of_awp Try.func32 rfl (by kernel_rfl) (Nat.le_of_ble_eq_true rfl) (by simp only [treeL, AVal.tree, treeL_i, treeL_ints, treeL_u8, treeL_append, Bool.and_self, Bool.and_true, Bool.true_and]) (by first | rfl | simp only [treeL, AVal.tree, treeL_i, treeL_ints, treeL_u8, treeL_append, Bool.and_self, Bool.and_true, Bool.true_and]) mixed (by kernel_rfl) fun hl => ?_
  simp only [lensL, lens, lensL_i, lensL_mapC, maxI, and_true, true_and] at hl
  rw [Try.ntmps32]
  refine ex_start ?_
  have hc1 : i * 2 + 2 ≤ n * 2 := by omega
  have hc2 : (i + 1) * 2 ≤ n * 2 := by omega
  have hc3 : k * 2 + 2 ≤ n * 2 := by omega
  have hc4 : (k + 1) * 2 ≤ n * 2 := by omega
  have e1 := pt_ld' (L := L) (k := i) (by omega)
  have e2 := pt_ld' (L := L) (k := k) (by omega)
  by_cases h1 : i = k
  · have h2 : ¬ npQ L reach i k := fun h => h.1 (by rw [h1])
    subst h1
    simp (config := { maxSteps := 1000000 }) +decide only [NoH, Old, OldL, nilQ, nilA, RechL, ReY, isNew, stepO, XPost, postN, XOk, updN, updU, isEff, avalue, aeff, ASt.eval, ASt.put, ASt.set, ASt.new, Nat.reduceDiv, Nat.reduceAdd, Int.reduceToNat, absV, absC, scalar, alen, acap, conc, flats, live, blkOf, aload, rd, part?, afieldAddr, afield, aindexAddr, cellsOf, afill, places, abuild, optI, asliceV, asliceS, szOk, srcCells, aappend, astore, amakeSlice, abuildSlice, snapL, mapO, treeL, AVal.tree, AVal.flatT, isFlat, ares, isFz, afroz, afrozB, lookupA, lookupH, tops, if_true, if_false, reduceCtorEq, forall_const, ite_true, ite_false, implies_true, walkS, tabS, Try.results32, eq_false h2]
    try exact h2
  · have h1' : ¬ (i : Int) = k := by omega
    simp (config := { maxSteps := 1000000 }) +decide only [NoH, Old, OldL, nilQ, nilA, RechL, ReY, isNew, stepO, XPost, postN, XOk, updN, updU, isEff, avalue, aeff, ASt.eval, ASt.put, ASt.set, ASt.new, Nat.reduceDiv, Nat.reduceAdd, Int.reduceToNat, absV, absC, scalar, alen, acap, conc, flats, live, blkOf, aload, rd, part?, afieldAddr, afield, aindexAddr, cellsOf, afill, places, abuild, optI, asliceV, asliceS, szOk, srcCells, aappend, astore, amakeSlice, abuildSlice, snapL, mapO, treeL, AVal.tree, AVal.flatT, isFlat, ares, isFz, afroz, afrozB, lookupA, lookupH, tops, if_true, if_false, reduceCtorEq, forall_const, ite_true, ite_false, implies_true, walkS, tabS, Try.results32, eq_false h1, hi, hk, hL, hc1, hc2, hc3, hc4, e1, e2]
    refine callK (den_distanceOf _ _ _ _ (hok.2 i hi) (hok.2 k hk)) (by first | exact .inl rfl | exact .inr rfl) ?_
    simp (config := { maxSteps := 1000000 }) +decide only [NoH, Old, OldL, nilQ, nilA, RechL, ReY, isNew, stepO, XPost, postN, XOk, updN, updU, isEff, avalue, aeff, ASt.eval, ASt.put, ASt.set, ASt.new, Nat.reduceDiv, Nat.reduceAdd, Int.reduceToNat, absV, absC, scalar, alen, acap, conc, flats, live, blkOf, aload, rd, part?, afieldAddr, afield, aindexAddr, cellsOf, afill, places, abuild, optI, asliceV, asliceS, szOk, srcCells, aappend, astore, amakeSlice, abuildSlice, snapL, mapO, treeL, AVal.tree, AVal.flatT, isFlat, ares, isFz, afroz, afrozB, lookupA, lookupH, tops, if_true, if_false, reduceCtorEq, forall_const, ite_true, ite_false, implies_true, walkS, tabS, Try.results32]
    rw [← bp_decide]
    exact bp_congr ⟨fun h => ⟨h1', h⟩, fun h => h.2⟩
theorem denx_implNeighboursByPlace (L : List Int) (n : Nat) (hL : L.length = n * 2) (reach : Int) : DenX Try.prog 13 [.v (pointsV L n), xi reach] [.v (pointsV L n), xi reach] (.tup [.ol 1 (mapC xints (npL L n reach)) (npL L n reach).length, xi (npC L n reach)]) := by
  refine denx_of_awpG (ghs [] [2, 3]) Try.func13 rfl (by kernel_rfl) (Nat.le_of_ble_eq_true rfl) (by simp +decide only [w_embA_nil, w_embA_cons, w_emb_v, w_emb_ol, w_emb_op, w_emb_agg, w_emb_tup, w_embL_nil, w_embL_cons, embL_i, List.map_cons, List.map_nil, List.nil_append, List.append_nil, List.cons_append, List.nodup_cons, List.nodup_nil, List.mem_cons, List.mem_nil_iff, List.not_mem_nil, ch_ch, ch_lit, lit_ch, Nat.reduceAdd]) mixed (by kernel_rfl) fun hl => ?_
  simp only [xlensL, xlens, lensL, lens, lensL_i, lensL_mapC, xlensL_i, maxI, and_true, true_and] at hl
  rw [Try.ntmps13]
  refine ex_start ?_
  by_cases h24 : n ≤ 24
  case neg =>
    obtain ⟨e1, e2⟩ := np_no (reach := reach) (L := L) (n := n) (fun h => h24 h.1)
    rw [e1, e2]
    have h24' : ¬ (n : Int) ≤ 24 := by omega
    have h24'' : (24 : Int) < n := by omega
    simp (config := { maxSteps := 1000000 }) +decide only [NoH, Old, OldL, nilQ, nilA, RechL, ReY, isNew, stepO, XPost, postN, XOk, updN, updU, isEff, avalue, aeff, ASt.eval, ASt.put, ASt.set, ASt.new, Nat.reduceDiv, Nat.reduceAdd, Int.reduceToNat, absV, absC, scalar, alen, acap, conc, flats, live, blkOf, aload, rd, part?, afieldAddr, afield, aindexAddr, cellsOf, afill, places, abuild, optI, asliceV, asliceS, szOk, srcCells, aappend, astore, amakeSlice, abuildSlice, snapL, mapO, treeL, AVal.tree, AVal.flatT, isFlat, ares, isFz, afroz, afrozB, lookupA, lookupH, tops, if_true, if_false, reduceCtorEq, forall_const, ite_true, ite_false, implies_true, walkS, tabS, Try.results13, h24', h24'', mapC_nil]
  have h24'' : ¬ (24 : Int) < n := by omega
  simp (config := { maxSteps := 1000000 }) +decide only [NoH, Old, OldL, nilQ, nilA, RechL, ReY, isNew, stepO, XPost, postN, XOk, updN, updU, isEff, avalue, aeff, ASt.eval, ASt.put, ASt.set, ASt.new, Nat.reduceDiv, Nat.reduceAdd, Int.reduceToNat, absV, absC, scalar, alen, acap, conc, flats, live, blkOf, aload, rd, part?, afieldAddr, afield, aindexAddr, cellsOf, afill, places, abuild, optI, asliceV, asliceS, szOk, srcCells, aappend, astore, amakeSlice, abuildSlice, snapL, mapO, treeL, AVal.tree, AVal.flatT, isFlat, ares, isFz, afroz, afrozB, lookupA, lookupH, tops, if_true, if_false, reduceCtorEq, forall_const, ite_true, ite_false, implies_true, walkS, tabS, Try.results13, eq_false h24'']
  refine callK (den_ContainsPts L n _ (fun k => ¬ OkPt (px L k) (py L k)) hL (fun k _ => den_np1 _ _)) (by first | exact .inl rfl | exact .inr rfl) ?_
  by_cases h1 : OkPts L n
  case neg =>
    obtain ⟨e1, e2⟩ := np_no (reach := reach) h1
    rw [e1, e2]
    have hv : ∃ k, k < n ∧ ¬ OkPt (px L k) (py L k) := by
      rcases first_ex (fun k => ¬ OkPt (px L k) (py L k)) n with ⟨k, q1, q2, _⟩ | h
      · exact ⟨k, q1, q2⟩
      · exact (h1 ⟨h24, fun k hk => Classical.byContradiction fun hc => h k hk hc⟩).elim
    simp (config := { maxSteps := 1000000 }) +decide only [NoH, Old, OldL, nilQ, nilA, RechL, ReY, isNew, stepO, XPost, postN, XOk, updN, updU, isEff, avalue, aeff, ASt.eval, ASt.put, ASt.set, ASt.new, Nat.reduceDiv, Nat.reduceAdd, Int.reduceToNat, absV, absC, scalar, alen, acap, conc, flats, live, blkOf, aload, rd, part?, afieldAddr, afield, aindexAddr, cellsOf, afill, places, abuild, optI, asliceV, asliceS, szOk, srcCells, aappend, astore, amakeSlice, abuildSlice, snapL, mapO, treeL, AVal.tree, AVal.flatT, isFlat, ares, isFz, afroz, afrozB, lookupA, lookupH, tops, if_true, if_false, reduceCtorEq, forall_const, ite_true, ite_false, implies_true, walkS, tabS, Try.results13, eq_true hv, mapC_nil]
  have hv : ¬ ∃ k, k < n ∧ ¬ OkPt (px L k) (py L k) := fun ⟨k, q1, q2⟩ => q2 (h1.2 k q1)
  simp (config := { maxSteps := 1000000 }) +decide only [NoH, Old, OldL, nilQ, nilA, RechL, ReY, isNew, stepO, XPost, postN, XOk, updN, updU, isEff, avalue, aeff, ASt.eval, ASt.put, ASt.set, ASt.new, Nat.reduceDiv, Nat.reduceAdd, Int.reduceToNat, absV, absC, scalar, alen, acap, conc, flats, live, blkOf, aload, rd, part?, afieldAddr, afield, aindexAddr, cellsOf, afill, places, abuild, optI, asliceV, asliceS, szOk, srcCells, aappend, astore, amakeSlice, abuildSlice, snapL, mapO, treeL, AVal.tree, AVal.flatT, isFlat, ares, isFz, afroz, afrozB, lookupA, lookupH, tops, if_true, if_false, reduceCtorEq, forall_const, ite_true, ite_false, implies_true, walkS, tabS, Try.results13, eq_false hv]
  refine callK (den_within reach 0 283000) (by first | exact .inl rfl | exact .inr rfl) ?_
  by_cases h2 : ReachOk reach
  case neg =>
    obtain ⟨e1, e2⟩ := np_rch h1 h2
    rw [e1, e2]
    have h2' : ¬ (0 ≤ reach ∧ reach ≤ 283000) := h2
    simp (config := { maxSteps := 1000000 }) +decide only [NoH, Old, OldL, nilQ, nilA, RechL, ReY, isNew, stepO, XPost, postN, XOk, updN, updU, isEff, avalue, aeff, ASt.eval, ASt.put, ASt.set, ASt.new, Nat.reduceDiv, Nat.reduceAdd, Int.reduceToNat, absV, absC, scalar, alen, acap, conc, flats, live, blkOf, aload, rd, part?, afieldAddr, afield, aindexAddr, cellsOf, afill, places, abuild, optI, asliceV, asliceS, szOk, srcCells, aappend, astore, amakeSlice, abuildSlice, snapL, mapO, treeL, AVal.tree, AVal.flatT, isFlat, ares, isFz, afroz, afrozB, lookupA, lookupH, tops, if_true, if_false, reduceCtorEq, forall_const, ite_true, ite_false, implies_true, walkS, tabS, Try.results13, eq_false h2', mapC_nil]
  obtain ⟨e1, e2⟩ := np_yes h1 h2
  rw [e1, e2]
  have h2' : 0 ≤ reach ∧ reach ≤ 283000 := h2
  simp (config := { maxSteps := 1000000 }) +decide only [NoH, Old, OldL, nilQ, nilA, RechL, ReY, isNew, stepO, XPost, postN, XOk, updN, updU, isEff, avalue, aeff, ASt.eval, ASt.put, ASt.set, ASt.new, Nat.reduceDiv, Nat.reduceAdd, Int.reduceToNat, absV, absC, scalar, alen, acap, conc, flats, live, blkOf, aload, rd, part?, afieldAddr, afield, aindexAddr, cellsOf, afill, places, abuild, optI, asliceV, asliceS, szOk, srcCells, aappend, astore, amakeSlice, abuildSlice, snapL, mapO, treeL, AVal.tree, AVal.flatT, isFlat, ares, isFz, afroz, afrozB, lookupA, lookupH, tops, if_true, if_false, reduceCtorEq, forall_const, ite_true, ite_false, implies_true, walkS, tabS, Try.results13, h2']
  refine callX (denx_itemsWhere n _ [.iptr [pointsV L n] 0, .iptr [.i reach] 0] (npQ L reach) (by omega) (by simp only [treeL, AVal.tree, treeL_i, treeL_ints, Bool.and_self]) (fun i k hi hk => den_np2 L n reach hL h1 i k hi hk) (fun _ => by simp only [snapL, snap_iptr, treeL, AVal.tree, treeL_i, treeL_ints, Bool.and_self, if_true]) (fun _ => by simp only [mapO, snap_iptr, treeL, AVal.tree, treeL_i, treeL_ints, Bool.and_self, if_true])) (by simp (config := { maxSteps := 1000000 }) +decide only [NoH, Old, OldL, nilQ, nilA, RechL, ReY, isNew, stepO, XPost, postN, XOk, updN, updU, isEff, avalue, aeff, ASt.eval, ASt.put, ASt.set, ASt.new, Nat.reduceDiv, Nat.reduceAdd, Int.reduceToNat, absV, absC, scalar, alen, acap, conc, flats, live, blkOf, aload, rd, part?, afieldAddr, afield, aindexAddr, cellsOf, afill, places, abuild, optI, asliceV, asliceS, szOk, srcCells, aappend, astore, amakeSlice, abuildSlice, snapL, mapO, treeL, AVal.tree, AVal.flatT, isFlat, ares, isFz, afroz, afrozB, lookupA, lookupH, tops, if_true, if_false, reduceCtorEq, forall_const, ite_true, ite_false, implies_true, walkS, tabS, Try.results13, famS, famS2, famS3]) ?_
  simp (config := { maxSteps := 1000000 }) +decide only [NoH, Old, OldL, nilQ, nilA, RechL, ReY, isNew, stepO, XPost, postN, XOk, updN, updU, isEff, avalue, aeff, ASt.eval, ASt.put, ASt.set, ASt.new, Nat.reduceDiv, Nat.reduceAdd, Int.reduceToNat, absV, absC, scalar, alen, acap, conc, flats, live, blkOf, aload, rd, part?, afieldAddr, afield, aindexAddr, cellsOf, afill, places, abuild, optI, asliceV, asliceS, szOk, srcCells, aappend, astore, amakeSlice, abuildSlice, snapL, mapO, treeL, AVal.tree, AVal.flatT, isFlat, ares, isFz, afroz, afrozB, lookupA, lookupH, tops, if_true, if_false, reduceCtorEq, forall_const, ite_true, ite_false, implies_true, walkS, tabS, Try.results13, famS, famS2, famS3, itR_length]
end Go.Proofs.Ytgfjbpincemcaaa
