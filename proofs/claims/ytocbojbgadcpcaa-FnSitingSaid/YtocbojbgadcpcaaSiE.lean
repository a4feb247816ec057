/-
  OWN WORK: what a further candidate adds.
-/
import Derived.Test.YtocbojbgadcpcaaSiD
namespace Go.Proofs.Ytocbojbgadcpcaa
open Go Go.Own Go.Proofs
set_option maxHeartbeats 4000000
set_option maxRecDepth 20000
set_option linter.unusedSimpArgs false
theorem rises_lt {lo hi : Int} {xs : List Int} (h : Rises lo hi xs) : ∀ (d i : Nat) (h1 : i < xs.length) (h2 : i + d + 1 < xs.length), xs[i] < xs[i + d + 1]
  | 0, i, h1, h2 => by
    have := (h (i + 1) h2).2 (by omega)
    simpa using this
  | d + 1, i, h1, h2 => by
    have h3 := rises_lt h d i h1 (by omega)
    have h4 := (h (i + (d + 1) + 1) h2).2 (by omega)
    have e : i + (d + 1) + 1 - 1 = i + d + 1 := by omega
    simp only [e] at h4
    omega
theorem rises_sorted {lo hi : Int} {xs : List Int} (h : Rises lo hi xs) : xs.Pairwise (· < ·) := by
  rw [List.pairwise_iff_getElem]
  intro i j hi hj hij
  have := rises_lt h (j - i - 1) i hi (by omega)
  have e : i + (j - i - 1) + 1 = j := by omega
  simp only [e] at this
  exact this
/-- the plain sum of what stands at some places -/
def wsum (ws : List Int) (l : List Int) : Int := (l.map fun c => ws.getD c.toNat 0).sum
theorem wsum_snoc (ws l : List Int) (c : Int) : wsum ws (l ++ [c]) = wsum ws l + ws.getD c.toNat 0 := by simp [wsum]
theorem sumAt_wsum {ws : List Int} (hw : ∀ i (h : i < ws.length), 0 ≤ ws[i] ∧ ws[i] ≤ 1000000) : ∀ (n : Nat) (l : List Int), l.length = n → n ≤ 1000000 → sumAt ws l = wsum ws l ∧ 0 ≤ wsum ws l ∧ wsum ws l ≤ 1000000 * n
  | 0, l, hl, _ => by
    obtain rfl := List.eq_nil_of_length_eq_zero hl
    exact ⟨rfl, by simp [wsum], by simp [wsum]⟩
  | n + 1, l, hl, hn => by
    have hne : l ≠ [] := fun e => by subst e; simp at hl
    obtain ⟨l', c, rfl⟩ : ∃ l' c, l = l' ++ [c] := ⟨l.dropLast, l.getLast hne, (List.dropLast_concat_getLast hne).symm⟩
    simp at hl
    obtain ⟨h1, h2, h3⟩ := sumAt_wsum hw n l' hl (by omega)
    have hc : 0 ≤ ws.getD c.toNat 0 ∧ ws.getD c.toNat 0 ≤ 1000000 := by
      by_cases h : c.toNat < ws.length
      · rw [getD_lt h]; exact hw _ h
      · simp [List.getD, List.getElem?_eq_none (Nat.le_of_not_lt h)]
    rw [sumAt_snoc, wsum_snoc, h1]
    exact ⟨wrap64 (by omega) (by omega), by omega, by omega⟩
theorem wsum_diff (ws : List Int) {q q' : Int → Prop} (h : ∀ y, q y → q' y) : ∀ n : Nat, wsum ws (plK q' n) - wsum ws (plK q n) = wsum ws (plK (fun y => q' y ∧ ¬ q y) n)
  | 0 => by simp [plK, wsum]
  | n + 1 => by
    have ih := wsum_diff ws h n
    by_cases c : q n
    · rw [plK_yes c, plK_yes (h _ c), plK_no (q := fun y => q' y ∧ ¬ q y) (fun hc => hc.2 c), wsum_snoc, wsum_snoc]
      omega
    · by_cases c' : q' n
      · rw [plK_no c, plK_yes c', plK_yes (q := fun y => q' y ∧ ¬ q y) ⟨c', c⟩, wsum_snoc, wsum_snoc]
        omega
      · rw [plK_no c, plK_no c', plK_no (q := fun y => q' y ∧ ¬ q y) (fun hc => c' hc.1)]
        exact ih
theorem newR_plK {ws : List Int} {hv row : List Int} (hr : Rises 0 (ws.length - 1) row) : newR hv row = plK (fun y => y ∈ row ∧ ¬ y ∈ hv) ws.length := by
  refine sorted_ext ((rises_sorted hr).filter _) (sorted_plK _ _) fun x => ?_
  rw [mem_plK]
  unfold newR
  rw [List.mem_filter]
  constructor
  · rintro ⟨h1, h2⟩
    obtain ⟨i, hi, rfl⟩ := List.getElem_of_mem h1
    have h3 := (hr i hi).1
    have h4 : ¬ row[i] ∈ hv := by
      intro hm
      have : bp (row[i] ∈ hv) = true := by rw [bp_true]; exact hm
      simp [this] at h2
    exact ⟨row[i].toNat, by omega, by omega, by rw [Int.toNat_of_nonneg h3.1]; exact ⟨h1, h4⟩⟩
  · rintro ⟨n, h1, h2, h3, h4⟩
    subst h2
    have : bp ((n : Int) ∈ hv) = false := by rw [bp_false]; exact h4
    exact ⟨h3, by simp [this]⟩
def InIx (cv : List (List Int)) (c : Int) : Prop := 0 ≤ c ∧ c ≤ (cv.length : Int) - 1
noncomputable def gainN (ws : List Int) (cv : List (List Int)) (cs ch : List Int) (c : Int) : Int := if askC ws cv cs ch = 0 then (if bp (InIx cv c) then wsum ws (plK (fun y => y ∈ cv.getD c.toNat [] ∧ ¬ cvd cv ch y) ws.length) else 0) else 0
noncomputable def gainC (ws : List Int) (cv : List (List Int)) (cs ch : List Int) (c : Int) : Int := if askC ws cv cs ch = 0 then (if bp (InIx cv c) then 0 else 2) else askC ws cv cs ch
section
variable {ws : List Int} {cv : List (List Int)} {cs ch : List Int} {c : Int}
theorem gain_yes (h1 : askC ws cv cs ch = 0) (h2 : InIx cv c) : gainN ws cv cs ch c = wsum ws (plK (fun y => y ∈ cv.getD c.toNat [] ∧ ¬ cvd cv ch y) ws.length) ∧ gainC ws cv cs ch c = 0 := by
  unfold gainN gainC
  rw [if_pos h1, if_pos h1, if_pos (by rw [bp_true]; exact h2), if_pos (by rw [bp_true]; exact h2)]
  exact ⟨rfl, rfl⟩
theorem gain_bad (h1 : askC ws cv cs ch = 0) (h2 : ¬ InIx cv c) : gainN ws cv cs ch c = 0 ∧ gainC ws cv cs ch c = 2 := by
  unfold gainN gainC
  rw [if_pos h1, if_pos h1, if_neg (by rw [bp_true]; exact h2), if_neg (by rw [bp_true]; exact h2)]
  exact ⟨rfl, rfl⟩
theorem gain_no (h1 : ¬ askC ws cv cs ch = 0) : gainN ws cv cs ch c = 0 ∧ gainC ws cv cs ch c = askC ws cv cs ch := by
  unfold gainN gainC
  rw [if_neg h1, if_neg h1]
  exact ⟨rfl, rfl⟩
end
/-- what the reference sums up -/
theorem specGain_eq {ws : List Int} {cv : List (List Int)} {cs ch : List Int} {n : Nat} (hs : OkSit ws cv cs) (hn : n < cv.length) : sumAt ws (newR (covL ws cv ch) cv[n]) = wsum ws (plK (fun y => y ∈ cv.getD (n : Int).toNat [] ∧ ¬ cvd cv ch y) ws.length) := by
  have hr := hs.row n hn
  have w2 := hs.w2
  have e : newR (covL ws cv ch) cv[n] = plK (fun y => y ∈ cv.getD (n : Int).toNat [] ∧ ¬ cvd cv ch y) ws.length := by
    rw [newR_plK hr, row_get hn]
    refine plK_congr fun k hk => ?_
    have hm : (k : Int) ∈ covL ws cv ch ↔ cvd cv ch k := by
      unfold covL
      rw [mem_plK]
      exact ⟨fun ⟨m, _, h2, h3⟩ => by rw [h2]; exact h3, fun h => ⟨k, hk, rfl, h⟩⟩
    rw [hm]
  rw [e]
  have hle := plK_le (fun y => y ∈ cv.getD (n : Int).toNat [] ∧ ¬ cvd cv ch y) ws.length
  exact (sumAt_wsum hs.wt _ _ rfl (by omega)).1
theorem den_indexValid (cv : List (List Int)) (c : Int) (hb : cv.length ≤ 1000000000) : Den Try.prog 23 [intss cv, .i c] (.b (bp (InIx cv c))) := by
  refine den_of_awp Try.func23 rfl (by kernel_rfl) (Nat.le_of_ble_eq_true rfl) (by simp only [treeL, AVal.tree, treeL_i, treeL_ints, treeL_u8, treeL_append, Bool.and_self, Bool.and_true, Bool.true_and]) (by first | rfl | simp only [treeL, AVal.tree, treeL_i, treeL_ints, treeL_u8, treeL_append, Bool.and_self, Bool.and_true, Bool.true_and]) mixed (by kernel_rfl) fun hl => ?_
  simp only [lensL, lens, lensL_i, lensL_mapC, maxI, and_true, true_and] at hl
  rw [Try.ntmps23]
  refine ex_start ?_
  have hw1 : IntKind.i64.wrap ((cv.length : Int) - 1) = (cv.length : Int) - 1 := wrap64 (by omega) (by omega)
  simp (config := { maxSteps := 1000000 }) +decide only [NoH, Old, OldL, nilQ, nilA, RechL, ReY, isNew, stepO, XPost, postN, XOk, updN, updU, isEff, avalue, aeff, ASt.eval, ASt.put, ASt.set, ASt.new, Nat.reduceDiv, Nat.reduceAdd, Int.reduceToNat, absV, absC, scalar, alen, acap, conc, flats, live, blkOf, aload, rd, part?, afieldAddr, afield, aindexAddr, cellsOf, afill, places, abuild, optI, asliceV, asliceS, szOk, srcCells, aappend, astore, amakeSlice, abuildSlice, snapL, mapO, treeL, AVal.tree, AVal.flatT, isFlat, ares, isFz, afroz, afrozB, lookupA, lookupH, tops, if_true, if_false, reduceCtorEq, forall_const, ite_true, ite_false, implies_true, walkS, tabS, Try.results23, hw1]
  refine callK (den_within _ _ _) (by first | exact .inl rfl | exact .inr rfl) ?_
  simp (config := { maxSteps := 1000000 }) +decide only [NoH, Old, OldL, nilQ, nilA, RechL, ReY, isNew, stepO, XPost, postN, XOk, updN, updU, isEff, avalue, aeff, ASt.eval, ASt.put, ASt.set, ASt.new, Nat.reduceDiv, Nat.reduceAdd, Int.reduceToNat, absV, absC, scalar, alen, acap, conc, flats, live, blkOf, aload, rd, part?, afieldAddr, afield, aindexAddr, cellsOf, afill, places, abuild, optI, asliceV, asliceS, szOk, srcCells, aappend, astore, amakeSlice, abuildSlice, snapL, mapO, treeL, AVal.tree, AVal.flatT, isFlat, ares, isFz, afroz, afrozB, lookupA, lookupH, tops, if_true, if_false, reduceCtorEq, forall_const, ite_true, ite_false, implies_true, walkS, tabS, Try.results23, InIx]
theorem implGain_eq {ws : List Int} {cv : List (List Int)} {cs ch : List Int} {n : Nat} (hs : OkSit ws cv cs) :
    IntKind.i64.wrap (sumAt ws (covL ws cv (ch ++ [(n : Int)])) - sumAt ws (covL ws cv ch)) = wsum ws (plK (fun y => y ∈ cv.getD (n : Int).toNat [] ∧ ¬ cvd cv ch y) ws.length) := by
  have w2 := hs.w2
  have l1 : (covL ws cv (ch ++ [(n : Int)])).length ≤ ws.length := plK_le _ _
  have l2 : (covL ws cv ch).length ≤ ws.length := plK_le _ _
  obtain ⟨a1, a2, a3⟩ := sumAt_wsum hs.wt _ (covL ws cv (ch ++ [(n : Int)])) rfl (by omega)
  obtain ⟨b1, b2, b3⟩ := sumAt_wsum hs.wt _ (covL ws cv ch) rfl (by omega)
  rw [a1, b1, wrap64 (by omega) (by omega)]
  unfold covL
  rw [wsum_diff ws (q := cvd cv ch) (q' := cvd cv (ch ++ [(n : Int)])) (fun y h => (cvd_snoc cv ch n y).2 (.inl h))]
  congr 1
  refine plK_congr fun k _ => ?_
  rw [cvd_snoc]
  exact ⟨fun ⟨h1, h2⟩ => ⟨h1.resolve_left h2, h2⟩, fun ⟨h1, h2⟩ => ⟨.inr h1, h2⟩⟩
theorem den_gain (ws : List Int) (cv : List (List Int)) (cs ch : List Int) (n : Nat) (hs : OkSit ws cv cs) (hi : Idx cv ch) (hn : n < cv.length) (hc : ch.length ≤ 1000000000000) :
    Den Try.prog 24 [sitV ws cv cs, ints ch, .i n] (.i (wsum ws (plK (fun y => y ∈ cv.getD (n : Int).toNat [] ∧ ¬ cvd cv ch y) ws.length))) := by
  refine den_of_awpG (ghs [] [3, 11]) Try.func24 rfl (by kernel_rfl) (Nat.le_of_ble_eq_true rfl) (by simp only [treeL, AVal.tree, treeL_i, treeL_ints, treeL_u8, treeL_append, Bool.and_self, Bool.and_true, Bool.true_and]) (by first | rfl | simp only [treeL, AVal.tree, treeL_i, treeL_ints, treeL_u8, treeL_append, Bool.and_self, Bool.and_true, Bool.true_and]) mixed (by kernel_rfl) fun hl => ?_
  simp only [lensL, lens, lensL_i, lensL_mapC, maxI, and_true, true_and] at hl
  rw [Try.ntmps24]
  refine ex_start ?_
  have w2 := hs.w2
  have h8 : (ch.length + 1) * 8 ≤ 140737488355328 := by omega
  have hi2 : Idx cv (ch ++ [(n : Int)]) := fun i h => by
    by_cases c : i < ch.length
    · rw [List.getElem_append_left c]; exact hi i c
    · refine ⟨n, ?_, hn⟩
      rw [List.getElem_append_right (by omega)]
      simp
  simp (config := { maxSteps := 1000000 }) +decide only [NoH, Old, OldL, nilQ, nilA, RechL, ReY, isNew, stepO, XPost, postN, XOk, updN, updU, isEff, avalue, aeff, ASt.eval, ASt.put, ASt.set, ASt.new, Nat.reduceDiv, Nat.reduceAdd, Int.reduceToNat, absV, absC, scalar, alen, acap, conc, flats, live, blkOf, aload, rd, part?, afieldAddr, afield, aindexAddr, cellsOf, afill, places, abuild, optI, asliceV, asliceS, szOk, srcCells, aappend, astore, amakeSlice, abuildSlice, snapL, mapO, treeL, AVal.tree, AVal.flatT, isFlat, ares, isFz, afroz, afrozB, lookupA, lookupH, tops, if_true, if_false, reduceCtorEq, forall_const, ite_true, ite_false, implies_true, walkS, tabS, Try.results24]
  refine callX (denx_Clone ch hc) (by simp (config := { maxSteps := 1000000 }) +decide only [NoH, Old, OldL, nilQ, nilA, RechL, ReY, isNew, stepO, XPost, postN, XOk, updN, updU, isEff, avalue, aeff, ASt.eval, ASt.put, ASt.set, ASt.new, Nat.reduceDiv, Nat.reduceAdd, Int.reduceToNat, absV, absC, scalar, alen, acap, conc, flats, live, blkOf, aload, rd, part?, afieldAddr, afield, aindexAddr, cellsOf, afill, places, abuild, optI, asliceV, asliceS, szOk, srcCells, aappend, astore, amakeSlice, abuildSlice, snapL, mapO, treeL, AVal.tree, AVal.flatT, isFlat, ares, isFz, afroz, afrozB, lookupA, lookupH, tops, if_true, if_false, reduceCtorEq, forall_const, ite_true, ite_false, implies_true, walkS, tabS, Try.results24]) ?_
  have hlt2 : ch.length < (ch ++ [(n : Int)]).length := by simp
  have dw : Den Try.prog 25 [sitV ws cv cs, .lst (mapC AVal.i (ch ++ [(n : Int)])) (ch.length + 1)] (.i (sumAt ws (covL ws cv (ch ++ [(n : Int)])))) := by
    have := den_weight ws cv cs _ hi2 (by omega)
    simpa only [ints, lstC, List.length_append, List.length_cons, List.length_nil, Nat.zero_add] using this
  simp (config := { maxSteps := 1000000 }) +decide only [NoH, Old, OldL, nilQ, nilA, RechL, ReY, isNew, stepO, XPost, postN, XOk, updN, updU, isEff, avalue, aeff, ASt.eval, ASt.put, ASt.set, ASt.new, Nat.reduceDiv, Nat.reduceAdd, Int.reduceToNat, absV, absC, scalar, alen, acap, conc, flats, live, blkOf, aload, rd, part?, afieldAddr, afield, aindexAddr, cellsOf, afill, places, abuild, optI, asliceV, asliceS, szOk, srcCells, aappend, astore, amakeSlice, abuildSlice, snapL, mapO, treeL, AVal.tree, AVal.flatT, isFlat, ares, isFz, afroz, afrozB, lookupA, lookupH, tops, if_true, if_false, reduceCtorEq, forall_const, ite_true, ite_false, implies_true, walkS, tabS, Try.results24, h8, hlt2, take_snoc, List.replicate_succ, List.flatten_cons, List.flatten_nil, mapC_snoc]
  refine callK (dw) (by first | exact .inl rfl | exact .inr rfl) ?_
  simp (config := { maxSteps := 1000000 }) +decide only [NoH, Old, OldL, nilQ, nilA, RechL, ReY, isNew, stepO, XPost, postN, XOk, updN, updU, isEff, avalue, aeff, ASt.eval, ASt.put, ASt.set, ASt.new, Nat.reduceDiv, Nat.reduceAdd, Int.reduceToNat, absV, absC, scalar, alen, acap, conc, flats, live, blkOf, aload, rd, part?, afieldAddr, afield, aindexAddr, cellsOf, afill, places, abuild, optI, asliceV, asliceS, szOk, srcCells, aappend, astore, amakeSlice, abuildSlice, snapL, mapO, treeL, AVal.tree, AVal.flatT, isFlat, ares, isFz, afroz, afrozB, lookupA, lookupH, tops, if_true, if_false, reduceCtorEq, forall_const, ite_true, ite_false, implies_true, walkS, tabS, Try.results24]
  refine callK (den_weight ws cv cs _ hi (by omega)) (by first | exact .inl rfl | exact .inr rfl) ?_
  simp (config := { maxSteps := 1000000 }) +decide only [NoH, Old, OldL, nilQ, nilA, RechL, ReY, isNew, stepO, XPost, postN, XOk, updN, updU, isEff, avalue, aeff, ASt.eval, ASt.put, ASt.set, ASt.new, Nat.reduceDiv, Nat.reduceAdd, Int.reduceToNat, absV, absC, scalar, alen, acap, conc, flats, live, blkOf, aload, rd, part?, afieldAddr, afield, aindexAddr, cellsOf, afill, places, abuild, optI, asliceV, asliceS, szOk, srcCells, aappend, astore, amakeSlice, abuildSlice, snapL, mapO, treeL, AVal.tree, AVal.flatT, isFlat, ares, isFz, afroz, afrozB, lookupA, lookupH, tops, if_true, if_false, reduceCtorEq, forall_const, ite_true, ite_false, implies_true, walkS, tabS, Try.results24, implGain_eq (ch := ch) (n := n) hs]
theorem den_implGainOf (ws : List Int) (cv : List (List Int)) (cs ch : List Int) (c : Int) (hc : ch.length ≤ 1000000000000) : Den Try.prog 7 [sitV ws cv cs, ints ch, .i c] (.tup [.i (gainN ws cv cs ch c), .i (gainC ws cv cs ch c)]) := by
  refine den_of_awp Try.func7 rfl (by kernel_rfl) (Nat.le_of_ble_eq_true rfl) (by simp only [treeL, AVal.tree, treeL_i, treeL_ints, treeL_u8, treeL_append, Bool.and_self, Bool.and_true, Bool.true_and]) (by first | rfl | simp only [treeL, AVal.tree, treeL_i, treeL_ints, treeL_u8, treeL_append, Bool.and_self, Bool.and_true, Bool.true_and]) mixed (by kernel_rfl) fun hl => ?_
  simp only [lensL, lens, lensL_i, lensL_mapC, maxI, and_true, true_and] at hl
  rw [Try.ntmps7]
  refine ex_start ?_
  simp (config := { maxSteps := 1000000 }) +decide only [NoH, Old, OldL, nilQ, nilA, RechL, ReY, isNew, stepO, XPost, postN, XOk, updN, updU, isEff, avalue, aeff, ASt.eval, ASt.put, ASt.set, ASt.new, Nat.reduceDiv, Nat.reduceAdd, Int.reduceToNat, absV, absC, scalar, alen, acap, conc, flats, live, blkOf, aload, rd, part?, afieldAddr, afield, aindexAddr, cellsOf, afill, places, abuild, optI, asliceV, asliceS, szOk, srcCells, aappend, astore, amakeSlice, abuildSlice, snapL, mapO, treeL, AVal.tree, AVal.flatT, isFlat, ares, isFz, afroz, afrozB, lookupA, lookupH, tops, if_true, if_false, reduceCtorEq, forall_const, ite_true, ite_false, implies_true, walkS, tabS, Try.results7]
  refine callK (den_sitingCode ws cv cs ch) (by first | exact .inl rfl | exact .inr rfl) ?_
  by_cases h : askC ws cv cs ch = 0
  · obtain ⟨h1, h2⟩ := ask_zero.1 h
    have c2 := h1.c2
    simp (config := { maxSteps := 1000000 }) +decide only [NoH, Old, OldL, nilQ, nilA, RechL, ReY, isNew, stepO, XPost, postN, XOk, updN, updU, isEff, avalue, aeff, ASt.eval, ASt.put, ASt.set, ASt.new, Nat.reduceDiv, Nat.reduceAdd, Int.reduceToNat, absV, absC, scalar, alen, acap, conc, flats, live, blkOf, aload, rd, part?, afieldAddr, afield, aindexAddr, cellsOf, afill, places, abuild, optI, asliceV, asliceS, szOk, srcCells, aappend, astore, amakeSlice, abuildSlice, snapL, mapO, treeL, AVal.tree, AVal.flatT, isFlat, ares, isFz, afroz, afrozB, lookupA, lookupH, tops, if_true, if_false, reduceCtorEq, forall_const, ite_true, ite_false, implies_true, walkS, tabS, Try.results7, h]
    refine callK (den_indexValid cv c (by omega)) (by first | exact .inl rfl | exact .inr rfl) ?_
    by_cases h3 : InIx cv c
    · obtain ⟨e1, e2⟩ := gain_yes h h3
      rw [e1, e2]
      obtain ⟨n, en, hn⟩ : ∃ n : Nat, c = n ∧ n < cv.length := ⟨c.toNat, by have := h3.1; omega, by have := h3.1; have := h3.2; omega⟩
      subst en
      simp (config := { maxSteps := 1000000 }) +decide only [NoH, Old, OldL, nilQ, nilA, RechL, ReY, isNew, stepO, XPost, postN, XOk, updN, updU, isEff, avalue, aeff, ASt.eval, ASt.put, ASt.set, ASt.new, Nat.reduceDiv, Nat.reduceAdd, Int.reduceToNat, absV, absC, scalar, alen, acap, conc, flats, live, blkOf, aload, rd, part?, afieldAddr, afield, aindexAddr, cellsOf, afill, places, abuild, optI, asliceV, asliceS, szOk, srcCells, aappend, astore, amakeSlice, abuildSlice, snapL, mapO, treeL, AVal.tree, AVal.flatT, isFlat, ares, isFz, afroz, afrozB, lookupA, lookupH, tops, if_true, if_false, reduceCtorEq, forall_const, ite_true, ite_false, implies_true, walkS, tabS, Try.results7, eq_true h3]
      refine callK (den_gain ws cv cs ch n h1 (idx_of h2) hn hc) (by first | exact .inl rfl | exact .inr rfl) ?_
      simp (config := { maxSteps := 1000000 }) +decide only [NoH, Old, OldL, nilQ, nilA, RechL, ReY, isNew, stepO, XPost, postN, XOk, updN, updU, isEff, avalue, aeff, ASt.eval, ASt.put, ASt.set, ASt.new, Nat.reduceDiv, Nat.reduceAdd, Int.reduceToNat, absV, absC, scalar, alen, acap, conc, flats, live, blkOf, aload, rd, part?, afieldAddr, afield, aindexAddr, cellsOf, afill, places, abuild, optI, asliceV, asliceS, szOk, srcCells, aappend, astore, amakeSlice, abuildSlice, snapL, mapO, treeL, AVal.tree, AVal.flatT, isFlat, ares, isFz, afroz, afrozB, lookupA, lookupH, tops, if_true, if_false, reduceCtorEq, forall_const, ite_true, ite_false, implies_true, walkS, tabS, Try.results7]
    · obtain ⟨e1, e2⟩ := gain_bad h h3
      rw [e1, e2]
      simp (config := { maxSteps := 1000000 }) +decide only [NoH, Old, OldL, nilQ, nilA, RechL, ReY, isNew, stepO, XPost, postN, XOk, updN, updU, isEff, avalue, aeff, ASt.eval, ASt.put, ASt.set, ASt.new, Nat.reduceDiv, Nat.reduceAdd, Int.reduceToNat, absV, absC, scalar, alen, acap, conc, flats, live, blkOf, aload, rd, part?, afieldAddr, afield, aindexAddr, cellsOf, afill, places, abuild, optI, asliceV, asliceS, szOk, srcCells, aappend, astore, amakeSlice, abuildSlice, snapL, mapO, treeL, AVal.tree, AVal.flatT, isFlat, ares, isFz, afroz, afrozB, lookupA, lookupH, tops, if_true, if_false, reduceCtorEq, forall_const, ite_true, ite_false, implies_true, walkS, tabS, Try.results7, eq_false h3]
  · obtain ⟨e1, e2⟩ := gain_no (c := c) h
    rw [e1, e2]
    simp (config := { maxSteps := 1000000 }) +decide only [NoH, Old, OldL, nilQ, nilA, RechL, ReY, isNew, stepO, XPost, postN, XOk, updN, updU, isEff, avalue, aeff, ASt.eval, ASt.put, ASt.set, ASt.new, Nat.reduceDiv, Nat.reduceAdd, Int.reduceToNat, absV, absC, scalar, alen, acap, conc, flats, live, blkOf, aload, rd, part?, afieldAddr, afield, aindexAddr, cellsOf, afill, places, abuild, optI, asliceV, asliceS, szOk, srcCells, aappend, astore, amakeSlice, abuildSlice, snapL, mapO, treeL, AVal.tree, AVal.flatT, isFlat, ares, isFz, afroz, afrozB, lookupA, lookupH, tops, if_true, if_false, reduceCtorEq, forall_const, ite_true, ite_false, implies_true, walkS, tabS, Try.results7, h, eq_false h]
end Go.Proofs.Ytocbojbgadcpcaa
