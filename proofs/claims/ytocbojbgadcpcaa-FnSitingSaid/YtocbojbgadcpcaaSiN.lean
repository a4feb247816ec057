/-
  OWN WORK: the candidate with the greatest gain, again and again.
-/
import Derived.Test.YtocbojbgadcpcaaSiE
import Derived.Test.YtocbojbgadcpcaaSiI
import Derived.Test.YtocbojbgadcpcaaSrt
namespace Go.Proofs.Ytocbojbgadcpcaa
open Go Go.Own Go.Proofs
set_option maxHeartbeats 4000000
set_option maxRecDepth 20000
set_option linter.unusedSimpArgs false
/-! ### plain -/
noncomputable def gnV (ws : List Int) (cv : List (List Int)) (ch : List Int) (c : Int) : Int := wsum ws (plK (fun y => y ∈ cv.getD c.toNat [] ∧ ¬ cvd cv ch y) ws.length)
theorem cvd_congr {cv : List (List Int)} {l l' : List Int} (h : ∀ x, x ∈ l ↔ x ∈ l') (y : Int) : cvd cv l y ↔ cvd cv l' y :=
  ⟨fun ⟨c, h1, h2⟩ => ⟨c, (h c).1 h1, h2⟩, fun ⟨c, h1, h2⟩ => ⟨c, (h c).2 h1, h2⟩⟩
theorem gnV_congr {ws : List Int} {cv : List (List Int)} {l l' : List Int} (h : ∀ x, x ∈ l ↔ x ∈ l') (c : Int) : gnV ws cv l c = gnV ws cv l' c := by
  unfold gnV
  rw [plK_congr (q' := fun y => y ∈ cv.getD c.toNat [] ∧ ¬ cvd cv l' y) fun k _ => by rw [cvd_congr h]]
def bsQ (ws : List Int) (cv : List (List Int)) (ch : List Int) (b : Int) (c : Nat) : Prop := ¬ (c : Int) ∈ ch ∧ (b < 0 ∨ gnV ws cv ch b < gnV ws cv ch c)
noncomputable def bsU (ws : List Int) (cv : List (List Int)) (ch : List Int) : Nat → Int
  | 0 => -1
  | c + 1 => if bp (bsQ ws cv ch (bsU ws cv ch c) c) then (c : Int) else bsU ws cv ch c
section
variable {ws : List Int} {cv : List (List Int)} {ch : List Int} {c : Nat}
theorem bsU_yes (h : bsQ ws cv ch (bsU ws cv ch c) c) : bsU ws cv ch (c + 1) = c := by rw [bsU, if_pos (by rw [bp_true]; exact h)]
theorem bsU_no (h : ¬ bsQ ws cv ch (bsU ws cv ch c) c) : bsU ws cv ch (c + 1) = bsU ws cv ch c := by rw [bsU, if_neg (by rw [bp_true]; exact h)]
end
theorem bsU_is (ws : List Int) (cv : List (List Int)) (ch : List Int) : ∀ c : Nat, (bsU ws cv ch c = -1 ∧ ∀ m : Nat, m < c → (m : Int) ∈ ch) ∨ ∃ m : Nat, bsU ws cv ch c = m ∧ m < c ∧ ¬ (m : Int) ∈ ch
  | 0 => .inl ⟨rfl, fun m h => absurd h (Nat.not_lt_zero _)⟩
  | c + 1 => by
    by_cases h : bsQ ws cv ch (bsU ws cv ch c) c
    · exact .inr ⟨c, bsU_yes h, Nat.lt_succ_self _, h.1⟩
    · rw [bsU_no h]
      rcases bsU_is ws cv ch c with ⟨h1, h2⟩ | ⟨m, h1, h2, h3⟩
      · refine .inl ⟨h1, fun m hm => ?_⟩
        by_cases e : m = c
        · subst e
          exact Classical.byContradiction fun hn => h ⟨hn, .inl (by rw [h1]; omega)⟩
        · exact h2 m (by omega)
      · exact .inr ⟨m, h1, by omega, h3⟩
theorem bsU_congr {ws : List Int} {cv : List (List Int)} {l l' : List Int} (h : ∀ x, x ∈ l ↔ x ∈ l') : ∀ c : Nat, bsU ws cv l c = bsU ws cv l' c
  | 0 => rfl
  | c + 1 => by
    have ih := bsU_congr (ws := ws) (cv := cv) h c
    have e : bsQ ws cv l (bsU ws cv l c) c ↔ bsQ ws cv l' (bsU ws cv l' c) c := by
      unfold bsQ
      rw [ih, h, gnV_congr h, gnV_congr h]
    by_cases hq : bsQ ws cv l (bsU ws cv l c) c
    · rw [bsU_yes hq, bsU_yes (e.1 hq)]
    · rw [bsU_no hq, bsU_no (fun h => hq (e.2 h)), ih]
theorem pigeon : ∀ (n : Nat) (l : List Int), (∀ m : Nat, m < n → (m : Int) ∈ l) → n ≤ l.length
  | 0, _, _ => Nat.zero_le _
  | n + 1, l, h => by
    have h1 := h n (Nat.lt_succ_self _)
    have h2 := pigeon n (l.erase (n : Int)) fun m hm => (List.mem_erase_of_ne (by omega)).2 (h m (by omega))
    rw [List.length_erase_of_mem h1] at h2
    have := List.length_pos_of_mem h1
    omega
noncomputable def chK (ws : List Int) (cv : List (List Int)) : Nat → List Int
  | 0 => []
  | k + 1 => chK ws cv k ++ [bsU ws cv (chK ws cv k) cv.length]
structure ChK (ws : List Int) (cv : List (List Int)) (k : Nat) : Prop where
  len : (chK ws cv k).length = k
  idx : Idx cv (chK ws cv k)
  nd : (chK ws cv k).Nodup
theorem chK_next {ws : List Int} {cv : List (List Int)} {k : Nat} (h : ChK ws cv k) (hk : k < cv.length) : ∃ m : Nat, bsU ws cv (chK ws cv k) cv.length = m ∧ m < cv.length ∧ ¬ (m : Int) ∈ chK ws cv k := by
  rcases bsU_is ws cv (chK ws cv k) cv.length with ⟨_, h2⟩ | h2
  · have := pigeon _ _ h2
    have := h.len
    omega
  · exact h2
theorem chK_ok {ws : List Int} {cv : List (List Int)} : ∀ k : Nat, k ≤ cv.length → ChK ws cv k
  | 0, _ => ⟨rfl, fun i hi => absurd hi (Nat.not_lt_zero _), List.nodup_nil⟩
  | k + 1, hk => by
    have ih := chK_ok (ws := ws) (cv := cv) k (by omega)
    obtain ⟨m, e, hm, hn⟩ := chK_next ih hk
    refine ⟨by rw [chK, List.length_append, ih.len]; rfl, fun i hi => ?_, ?_⟩
    · have hx : (chK ws cv (k + 1))[i] ∈ chK ws cv (k + 1) := List.getElem_mem hi
      generalize (chK ws cv (k + 1))[i] = x at hx
      rw [chK, List.mem_append, List.mem_singleton] at hx
      rcases hx with hx | hx
      · obtain ⟨j, hj, e2⟩ := List.getElem_of_mem hx
        rw [← e2]
        exact ih.idx j hj
      · rw [hx, e]
        exact ⟨m, rfl, hm⟩
    · rw [chK, e]
      exact List.nodup_append.2 ⟨ih.nd, by simp, fun a ha b hb hab => hn (by rw [List.mem_singleton] at hb; rw [← hb, ← hab]; exact ha)⟩
/-- as the reference keeps them: in order -/
noncomputable def spK (ws : List Int) (cv : List (List Int)) (k : Nat) : List Int := plK (fun y => y ∈ chK ws cv k) cv.length
theorem spK_mem {ws : List Int} {cv : List (List Int)} {k : Nat} (h : ChK ws cv k) (x : Int) : x ∈ spK ws cv k ↔ x ∈ chK ws cv k := by
  unfold spK
  rw [mem_plK]
  refine ⟨fun ⟨n, _, h2, h3⟩ => by rw [h2]; exact h3, fun hx => ?_⟩
  obtain ⟨i, hi, rfl⟩ := List.getElem_of_mem hx
  obtain ⟨n, e, hn⟩ := h.idx i hi
  exact ⟨n, hn, e, by rw [← e]; exact hx⟩
theorem spK_succ {ws : List Int} {cv : List (List Int)} {k : Nat} (h : ChK ws cv k) (hk : k < cv.length) : put (spK ws cv k) (bsU ws cv (spK ws cv k) cv.length) = spK ws cv (k + 1) := by
  obtain ⟨m, e, hm, _⟩ := chK_next h hk
  rw [bsU_congr (spK_mem h), e]
  unfold spK
  rw [put_plK hm]
  refine plK_congr fun y _ => ?_
  rw [chK, e, List.mem_append, List.mem_singleton]
theorem sortI_spK {ws : List Int} {cv : List (List Int)} {k : Nat} (h : ChK ws cv k) : sortI (chK ws cv k) = spK ws cv k := by
  refine sorted_ext ?_ (sorted_plK _ _) fun x => by rw [sortI_mem, spK_mem h]
  have h1 : (sortI (chK ws cv k)).Pairwise fun x y => decide (x ≤ y) = true := List.pairwise_mergeSort (by intro a b c h1 h2; simp at *; omega) (by intro a b; simp; omega) _
  have h2 : (sortI (chK ws cv k)).Nodup := (sortI_perm _).nodup_iff.2 h.nd
  refine (h1.and h2).imp fun {a b} h => ?_
  have h3 := h.1
  have h4 := h.2
  simp only [decide_eq_true_eq] at h3
  omega
noncomputable def gcL (ws : List Int) (cv : List (List Int)) (cs : List Int) (count : Int) : List Int := if bp (OkSit ws cv cs ∧ CntOk cv count) then spK ws cv count.toNat else []
noncomputable def gcC (ws : List Int) (cv : List (List Int)) (cs : List Int) (count : Int) : Int := if bp (OkSit ws cv cs) then (if bp (CntOk cv count) then 0 else 2) else 1
section
variable {ws : List Int} {cv : List (List Int)} {cs : List Int} {count : Int}
theorem gc_no (h1 : ¬ OkSit ws cv cs) : gcL ws cv cs count = [] ∧ gcC ws cv cs count = 1 := by
  unfold gcL gcC
  rw [if_neg (by rw [bp_true]; exact fun h => h1 h.1), if_neg (by rw [bp_true]; exact h1)]
  exact ⟨rfl, rfl⟩
theorem gc_bad (h1 : OkSit ws cv cs) (h2 : ¬ CntOk cv count) : gcL ws cv cs count = [] ∧ gcC ws cv cs count = 2 := by
  unfold gcL gcC
  rw [if_neg (by rw [bp_true]; exact fun h => h2 h.2), if_pos (by rw [bp_true]; exact h1), if_neg (by rw [bp_true]; exact h2)]
  exact ⟨rfl, rfl⟩
theorem gc_yes (h1 : OkSit ws cv cs) (h2 : CntOk cv count) : gcL ws cv cs count = spK ws cv count.toNat ∧ gcC ws cv cs count = 0 := by
  unfold gcL gcC
  rw [if_pos (by rw [bp_true]; exact ⟨h1, h2⟩), if_pos (by rw [bp_true]; exact h1), if_pos (by rw [bp_true]; exact h2)]
  exact ⟨rfl, rfl⟩
end
theorem gcL_le (ws : List Int) (cv : List (List Int)) (cs : List Int) (count : Int) : (gcL ws cv cs count).length ≤ 20 := by
  by_cases h : OkSit ws cv cs ∧ CntOk cv count
  · rw [(gc_yes h.1 h.2).1]
    have := plK_le (fun y => y ∈ chK ws cv count.toNat) cv.length
    have := h.1.c2
    unfold spK
    omega
  · unfold gcL
    rw [if_neg (by rw [bp_true]; exact h)]
    simp
/-! ### the walks -/
theorem denx_implGreedyChoice (ws : List Int) (cv : List (List Int)) (cs : List Int) (count : Int) : DenX Try.prog 13 [.v (sitV ws cv cs), xi count] [.v (sitV ws cv cs), xi count] (.tup [xints (gcL ws cv cs count), xi (gcC ws cv cs count)]) := by
  refine denx_of_awpG (ghs [] [2, 52]) Try.func13 rfl (by kernel_rfl) (Nat.le_of_ble_eq_true rfl) (by simp +decide only [w_embA_nil, w_embA_cons, w_emb_v, w_emb_ol, w_emb_op, w_emb_agg, w_emb_tup, w_embL_nil, w_embL_cons, embL_i, List.map_cons, List.map_nil, List.nil_append, List.append_nil, List.cons_append, List.nodup_cons, List.nodup_nil, List.mem_cons, List.mem_nil_iff, List.not_mem_nil, ch_ch, ch_lit, lit_ch, Nat.reduceAdd]) mixed (by kernel_rfl) fun hl => ?_
  simp only [xlensL, xlens, lensL, lens, lensL_i, lensL_mapC, xlensL_i, maxI, and_true, true_and] at hl
  rw [Try.ntmps13]
  refine ex_start ?_
  by_cases h1 : OkSit ws cv cs
  case neg =>
    obtain ⟨e1, e2⟩ := gc_no (count := count) h1
    rw [e1, e2]
    simp (config := { maxSteps := 1000000 }) +decide only [NoH, Old, OldL, nilQ, nilA, RechL, ReY, isNew, stepO, XPost, postN, XOk, updN, updU, isEff, avalue, aeff, ASt.eval, ASt.put, ASt.set, ASt.new, Nat.reduceDiv, Nat.reduceAdd, Int.reduceToNat, absV, absC, scalar, alen, acap, conc, flats, live, blkOf, aload, rd, part?, afieldAddr, afield, aindexAddr, cellsOf, afill, places, abuild, optI, asliceV, asliceS, szOk, srcCells, aappend, astore, amakeSlice, abuildSlice, snapL, mapO, treeL, AVal.tree, AVal.flatT, isFlat, ares, isFz, afroz, afrozB, lookupA, lookupH, tops, if_true, if_false, reduceCtorEq, forall_const, ite_true, ite_false, implies_true, walkS, tabS, Try.results13]
    refine callK (den_implValidSiting ws cv cs) (by first | exact .inl rfl | exact .inr rfl) ?_
    simp (config := { maxSteps := 1000000 }) +decide only [NoH, Old, OldL, nilQ, nilA, RechL, ReY, isNew, stepO, XPost, postN, XOk, updN, updU, isEff, avalue, aeff, ASt.eval, ASt.put, ASt.set, ASt.new, Nat.reduceDiv, Nat.reduceAdd, Int.reduceToNat, absV, absC, scalar, alen, acap, conc, flats, live, blkOf, aload, rd, part?, afieldAddr, afield, aindexAddr, cellsOf, afill, places, abuild, optI, asliceV, asliceS, szOk, srcCells, aappend, astore, amakeSlice, abuildSlice, snapL, mapO, treeL, AVal.tree, AVal.flatT, isFlat, ares, isFz, afroz, afrozB, lookupA, lookupH, tops, if_true, if_false, reduceCtorEq, forall_const, ite_true, ite_false, implies_true, walkS, tabS, Try.results13, eq_false h1, mapC_nil]
  have hn := h1.c2
  simp (config := { maxSteps := 1000000 }) +decide only [NoH, Old, OldL, nilQ, nilA, RechL, ReY, isNew, stepO, XPost, postN, XOk, updN, updU, isEff, avalue, aeff, ASt.eval, ASt.put, ASt.set, ASt.new, Nat.reduceDiv, Nat.reduceAdd, Int.reduceToNat, absV, absC, scalar, alen, acap, conc, flats, live, blkOf, aload, rd, part?, afieldAddr, afield, aindexAddr, cellsOf, afill, places, abuild, optI, asliceV, asliceS, szOk, srcCells, aappend, astore, amakeSlice, abuildSlice, snapL, mapO, treeL, AVal.tree, AVal.flatT, isFlat, ares, isFz, afroz, afrozB, lookupA, lookupH, tops, if_true, if_false, reduceCtorEq, forall_const, ite_true, ite_false, implies_true, walkS, tabS, Try.results13]
  refine callK (den_implValidSiting ws cv cs) (by first | exact .inl rfl | exact .inr rfl) ?_
  simp (config := { maxSteps := 1000000 }) +decide only [NoH, Old, OldL, nilQ, nilA, RechL, ReY, isNew, stepO, XPost, postN, XOk, updN, updU, isEff, avalue, aeff, ASt.eval, ASt.put, ASt.set, ASt.new, Nat.reduceDiv, Nat.reduceAdd, Int.reduceToNat, absV, absC, scalar, alen, acap, conc, flats, live, blkOf, aload, rd, part?, afieldAddr, afield, aindexAddr, cellsOf, afill, places, abuild, optI, asliceV, asliceS, szOk, srcCells, aappend, astore, amakeSlice, abuildSlice, snapL, mapO, treeL, AVal.tree, AVal.flatT, isFlat, ares, isFz, afroz, afrozB, lookupA, lookupH, tops, if_true, if_false, reduceCtorEq, forall_const, ite_true, ite_false, implies_true, walkS, tabS, Try.results13, eq_true h1]
  refine callK (den_within count 0 cv.length) (by first | exact .inl rfl | exact .inr rfl) ?_
  by_cases h2 : CntOk cv count
  case neg =>
    obtain ⟨e1, e2⟩ := gc_bad h1 h2
    rw [e1, e2]
    have h2' : ¬ (0 ≤ count ∧ count ≤ cv.length) := h2
    simp (config := { maxSteps := 1000000 }) +decide only [NoH, Old, OldL, nilQ, nilA, RechL, ReY, isNew, stepO, XPost, postN, XOk, updN, updU, isEff, avalue, aeff, ASt.eval, ASt.put, ASt.set, ASt.new, Nat.reduceDiv, Nat.reduceAdd, Int.reduceToNat, absV, absC, scalar, alen, acap, conc, flats, live, blkOf, aload, rd, part?, afieldAddr, afield, aindexAddr, cellsOf, afill, places, abuild, optI, asliceV, asliceS, szOk, srcCells, aappend, astore, amakeSlice, abuildSlice, snapL, mapO, treeL, AVal.tree, AVal.flatT, isFlat, ares, isFz, afroz, afrozB, lookupA, lookupH, tops, if_true, if_false, reduceCtorEq, forall_const, ite_true, ite_false, implies_true, walkS, tabS, Try.results13, eq_false h2', mapC_nil]
  obtain ⟨e1, e2⟩ := gc_yes h1 h2
  have h2' : 0 ≤ count ∧ count ≤ cv.length := h2
  obtain ⟨n, rfl⟩ : ∃ n : Nat, count = n := ⟨count.toNat, by omega⟩
  rw [Int.toNat_natCast] at e1
  rw [e1, e2]
  have hnc : n ≤ cv.length := by omega
  simp (config := { maxSteps := 1000000 }) +decide only [NoH, Old, OldL, nilQ, nilA, RechL, ReY, isNew, stepO, XPost, postN, XOk, updN, updU, isEff, avalue, aeff, ASt.eval, ASt.put, ASt.set, ASt.new, Nat.reduceDiv, Nat.reduceAdd, Int.reduceToNat, absV, absC, scalar, alen, acap, conc, flats, live, blkOf, aload, rd, part?, afieldAddr, afield, aindexAddr, cellsOf, afill, places, abuild, optI, asliceV, asliceS, szOk, srcCells, aappend, astore, amakeSlice, abuildSlice, snapL, mapO, treeL, AVal.tree, AVal.flatT, isFlat, ares, isFz, afroz, afrozB, lookupA, lookupH, tops, if_true, if_false, reduceCtorEq, forall_const, ite_true, ite_false, implies_true, walkS, tabS, Try.results13, eq_true h2', hnc]
  refine ex_loop (fun p : {p : Nat × Nat × Nat // p.1 ≤ n} => mkG (ghs [] [2, 52]) [(2, sitP ws cv cs), (6, .own 53 p.1.2.1 0 (chK ws cv p.1.1).length), (20, .i n), (21, .i p.1.1)] [(53, ⟨p.1.2.1, 1, mapC AVal.i (chK ws cv p.1.1)⟩)] p.1.2.2 58) (fun p => n - p.1.1) ⟨(0, 1, 2), by simp⟩ ?_ ?_
  · refine weak_mk rfl (by first | exact Nat.le_refl _ | (simp only [mk_gen]; omega)) ?_ ?_ <;> simp +decide only [w_lookup_nil, w_lookup_cons, ch_ch, ch_lit, lit_ch, wkT, wkH, wkB, WVL, WV_refl', Int.natCast_zero, Int.natCast_add, Int.natCast_one, Nat.sub_self, Nat.sub_zero, List.replicate_zero, List.take_zero, List.nil_append, List.append_nil, fillC_zero, Nat.reduceDiv, Nat.reduceAdd, upd_bk, bk_at, getB_zero, getB_succ, modB_zero, modB_succ, rows_lit, repB_zero, repB_succ, List.length_cons, List.length_nil, upd_upd_same, upd_apply, mk_tmp, mk_heap, mk_gen, lookupA, lookupH, List.getD_cons_zero, List.getD_cons_succ, init_two, tops, Bool.true_and, and_self, and_true, true_and, true_or, if_true, if_false, ite_true, ite_false, reduceCtorEq, reduceIte, chK, mapC_nil, List.length_nil]
    exact WV_nl rfl rfl rfl rfl
  rintro ⟨⟨k, g, G⟩, hk⟩
  have hk' : k ≤ n := hk
  have K := chK_ok (ws := ws) (cv := cv) k (by omega)
  have klen := K.len
  by_cases klt : k < n
  case neg =>
    have e : k = n := by omega
    subst e
    simp (config := { maxSteps := 1000000 }) +decide only [NoH, Old, OldL, nilQ, nilA, RechL, ReY, isNew, stepO, XPost, postN, XOk, updN, updU, isEff, avalue, aeff, ASt.eval, ASt.put, ASt.set, ASt.new, Nat.reduceDiv, Nat.reduceAdd, Int.reduceToNat, absV, absC, scalar, alen, acap, conc, flats, live, blkOf, aload, rd, part?, afieldAddr, afield, aindexAddr, cellsOf, afill, places, abuild, optI, asliceV, asliceS, szOk, srcCells, aappend, astore, amakeSlice, abuildSlice, snapL, mapO, treeL, AVal.tree, AVal.flatT, isFlat, ares, isFz, afroz, afrozB, lookupA, lookupH, tops, if_true, if_false, reduceCtorEq, forall_const, ite_true, ite_false, implies_true, walkS, tabS, Try.results13, klt]
    refine callX (denx_sortI (chK ws cv k) (by omega)) (by simp (config := { maxSteps := 1000000 }) +decide only [NoH, Old, OldL, nilQ, nilA, RechL, ReY, isNew, stepO, XPost, postN, XOk, updN, updU, isEff, avalue, aeff, ASt.eval, ASt.put, ASt.set, ASt.new, Nat.reduceDiv, Nat.reduceAdd, Int.reduceToNat, absV, absC, scalar, alen, acap, conc, flats, live, blkOf, aload, rd, part?, afieldAddr, afield, aindexAddr, cellsOf, afill, places, abuild, optI, asliceV, asliceS, szOk, srcCells, aappend, astore, amakeSlice, abuildSlice, snapL, mapO, treeL, AVal.tree, AVal.flatT, isFlat, ares, isFz, afroz, afrozB, lookupA, lookupH, tops, if_true, if_false, reduceCtorEq, forall_const, ite_true, ite_false, implies_true, walkS, tabS, Try.results13, sortI_length]) ?_
    have el : (spK ws cv k).length = (chK ws cv k).length := by rw [← sortI_spK K, sortI_length]
    have et : List.take (chK ws cv k).length (spK ws cv k) = spK ws cv k := List.take_of_length_le (by omega)
    simp (config := { maxSteps := 1000000 }) +decide only [NoH, Old, OldL, nilQ, nilA, RechL, ReY, isNew, stepO, XPost, postN, XOk, updN, updU, isEff, avalue, aeff, ASt.eval, ASt.put, ASt.set, ASt.new, Nat.reduceDiv, Nat.reduceAdd, Int.reduceToNat, absV, absC, scalar, alen, acap, conc, flats, live, blkOf, aload, rd, part?, afieldAddr, afield, aindexAddr, cellsOf, afill, places, abuild, optI, asliceV, asliceS, szOk, srcCells, aappend, astore, amakeSlice, abuildSlice, snapL, mapO, treeL, AVal.tree, AVal.flatT, isFlat, ares, isFz, afroz, afrozB, lookupA, lookupH, tops, if_true, if_false, reduceCtorEq, forall_const, ite_true, ite_false, implies_true, walkS, tabS, Try.results13, sortI_spK K, el, et]
  have hw : IntKind.i64.wrap ((k : Int) + 1) = ((k + 1 : Nat) : Int) := wrap64 (by omega) (by omega)
  simp (config := { maxSteps := 1000000 }) +decide only [NoH, Old, OldL, nilQ, nilA, RechL, ReY, isNew, stepO, XPost, postN, XOk, updN, updU, isEff, avalue, aeff, ASt.eval, ASt.put, ASt.set, ASt.new, Nat.reduceDiv, Nat.reduceAdd, Int.reduceToNat, absV, absC, scalar, alen, acap, conc, flats, live, blkOf, aload, rd, part?, afieldAddr, afield, aindexAddr, cellsOf, afill, places, abuild, optI, asliceV, asliceS, szOk, srcCells, aappend, astore, amakeSlice, abuildSlice, snapL, mapO, treeL, AVal.tree, AVal.flatT, isFlat, ares, isFz, afroz, afrozB, lookupA, lookupH, tops, if_true, if_false, reduceCtorEq, forall_const, ite_true, ite_false, implies_true, walkS, tabS, Try.results13, klt]
  refine ex_loop (fun c : {c : Nat // c ≤ cv.length} => mkG (ghs [] [2, 52]) [(2, sitP ws cv cs), (6, .own 53 g 0 (chK ws cv k).length), (7, .i (bsU ws cv (chK ws cv k) c)), (20, .i n), (21, .i k), (25, .i cv.length), (26, .i c)] [(53, ⟨g, 1, mapC AVal.i (chK ws cv k)⟩)] G 58) (fun c => cv.length - c) ⟨0, by simp⟩ ?_ ?_
  · refine weak_mk rfl (by first | exact Nat.le_refl _ | (simp only [mk_gen]; omega)) ?_ ?_ <;> simp +decide only [w_lookup_nil, w_lookup_cons, ch_ch, ch_lit, lit_ch, wkT, wkH, wkB, WVL, WV_refl', Int.natCast_zero, Int.natCast_add, Int.natCast_one, Nat.sub_self, Nat.sub_zero, List.replicate_zero, List.take_zero, List.nil_append, List.append_nil, fillC_zero, Nat.reduceDiv, Nat.reduceAdd, upd_bk, bk_at, getB_zero, getB_succ, modB_zero, modB_succ, rows_lit, repB_zero, repB_succ, List.length_cons, List.length_nil, upd_upd_same, upd_apply, mk_tmp, mk_heap, mk_gen, lookupA, lookupH, List.getD_cons_zero, List.getD_cons_succ, init_two, tops, Bool.true_and, and_self, and_true, true_and, true_or, if_true, if_false, ite_true, ite_false, reduceCtorEq, reduceIte, bsU]
  rintro ⟨c, hc⟩
  by_cases clt : c < cv.length
  case neg =>
    have e : c = cv.length := by omega
    subst e
    have h8 : ((chK ws cv k).length + 1) * 8 ≤ 140737488355328 := by omega
    simp (config := { maxSteps := 1000000 }) +decide only [NoH, Old, OldL, nilQ, nilA, RechL, ReY, isNew, stepO, XPost, postN, XOk, updN, updU, isEff, avalue, aeff, ASt.eval, ASt.put, ASt.set, ASt.new, Nat.reduceDiv, Nat.reduceAdd, Int.reduceToNat, absV, absC, scalar, alen, acap, conc, flats, live, blkOf, aload, rd, part?, afieldAddr, afield, aindexAddr, cellsOf, afill, places, abuild, optI, asliceV, asliceS, szOk, srcCells, aappend, astore, amakeSlice, abuildSlice, snapL, mapO, treeL, AVal.tree, AVal.flatT, isFlat, ares, isFz, afroz, afrozB, lookupA, lookupH, tops, if_true, if_false, reduceCtorEq, forall_const, ite_true, ite_false, implies_true, walkS, tabS, Try.results13, clt, hw, h8, List.replicate_succ, List.flatten_cons, List.flatten_nil, mapC_snoc]
    refine ⟨⟨(k + 1, G, G + 1), klt⟩, ?_, by show _ - (k + 1) < _ - k; omega⟩
    refine weak_mk rfl (by first | exact Nat.le_refl _ | (simp only [mk_gen]; omega)) ?_ ?_ <;> simp +decide only [w_lookup_nil, w_lookup_cons, ch_ch, ch_lit, lit_ch, wkT, wkH, wkB, WVL, WV_refl', Int.natCast_zero, Int.natCast_add, Int.natCast_one, Nat.sub_self, Nat.sub_zero, List.replicate_zero, List.take_zero, List.nil_append, List.append_nil, fillC_zero, Nat.reduceDiv, Nat.reduceAdd, upd_bk, bk_at, getB_zero, getB_succ, modB_zero, modB_succ, rows_lit, repB_zero, repB_succ, List.length_cons, List.length_nil, upd_upd_same, upd_apply, mk_tmp, mk_heap, mk_gen, lookupA, lookupH, List.getD_cons_zero, List.getD_cons_succ, init_two, tops, Bool.true_and, and_self, and_true, true_and, true_or, if_true, if_false, ite_true, ite_false, reduceCtorEq, reduceIte, chK, List.length_append, List.length_cons, List.length_nil, Nat.zero_add]
  have hwc : IntKind.i64.wrap ((c : Int) + 1) = ((c + 1 : Nat) : Int) := wrap64 (by omega) (by omega)
  have hm : cv.length - (c + 1) < cv.length - c := by omega
  simp (config := { maxSteps := 1000000 }) +decide only [NoH, Old, OldL, nilQ, nilA, RechL, ReY, isNew, stepO, XPost, postN, XOk, updN, updU, isEff, avalue, aeff, ASt.eval, ASt.put, ASt.set, ASt.new, Nat.reduceDiv, Nat.reduceAdd, Int.reduceToNat, absV, absC, scalar, alen, acap, conc, flats, live, blkOf, aload, rd, part?, afieldAddr, afield, aindexAddr, cellsOf, afill, places, abuild, optI, asliceV, asliceS, szOk, srcCells, aappend, astore, amakeSlice, abuildSlice, snapL, mapO, treeL, AVal.tree, AVal.flatT, isFlat, ares, isFz, afroz, afrozB, lookupA, lookupH, tops, if_true, if_false, reduceCtorEq, forall_const, ite_true, ite_false, implies_true, walkS, tabS, Try.results13, clt, hwc]
  refine callK (den_Contains (chK ws cv k) c) (by first | exact .inl rfl | exact .inr rfl) ?_
  have dg : ∀ m : Nat, m < cv.length → Den Try.prog 24 [sitV ws cv cs, ints (chK ws cv k), .i m] (.i (gnV ws cv (chK ws cv k) m)) := fun m hm => den_gain ws cv cs (chK ws cv k) m h1 K.idx hm (by omega)
  by_cases hin : (c : Int) ∈ chK ws cv k
  · have no : ¬ bsQ ws cv (chK ws cv k) (bsU ws cv (chK ws cv k) c) c := fun h => h.1 hin
    simp (config := { maxSteps := 1000000 }) +decide only [NoH, Old, OldL, nilQ, nilA, RechL, ReY, isNew, stepO, XPost, postN, XOk, updN, updU, isEff, avalue, aeff, ASt.eval, ASt.put, ASt.set, ASt.new, Nat.reduceDiv, Nat.reduceAdd, Int.reduceToNat, absV, absC, scalar, alen, acap, conc, flats, live, blkOf, aload, rd, part?, afieldAddr, afield, aindexAddr, cellsOf, afill, places, abuild, optI, asliceV, asliceS, szOk, srcCells, aappend, astore, amakeSlice, abuildSlice, snapL, mapO, treeL, AVal.tree, AVal.flatT, isFlat, ares, isFz, afroz, afrozB, lookupA, lookupH, tops, if_true, if_false, reduceCtorEq, forall_const, ite_true, ite_false, implies_true, walkS, tabS, Try.results13, eq_true hin, hwc]
    refine ⟨⟨c + 1, clt⟩, ?_, hm⟩
    refine weak_mk rfl (by first | exact Nat.le_refl _ | (simp only [mk_gen]; omega)) ?_ ?_ <;> simp +decide only [w_lookup_nil, w_lookup_cons, ch_ch, ch_lit, lit_ch, wkT, wkH, wkB, WVL, WV_refl', Int.natCast_zero, Int.natCast_add, Int.natCast_one, Nat.sub_self, Nat.sub_zero, List.replicate_zero, List.take_zero, List.nil_append, List.append_nil, fillC_zero, Nat.reduceDiv, Nat.reduceAdd, upd_bk, bk_at, getB_zero, getB_succ, modB_zero, modB_succ, rows_lit, repB_zero, repB_succ, List.length_cons, List.length_nil, upd_upd_same, upd_apply, mk_tmp, mk_heap, mk_gen, lookupA, lookupH, List.getD_cons_zero, List.getD_cons_succ, init_two, tops, Bool.true_and, and_self, and_true, true_and, true_or, if_true, if_false, ite_true, ite_false, reduceCtorEq, reduceIte, bsU_no no]
  rcases bsU_is ws cv (chK ws cv k) c with ⟨eb, _⟩ | ⟨m, eb, hmc, _⟩
  · have yes : bsQ ws cv (chK ws cv k) (bsU ws cv (chK ws cv k) c) c := ⟨hin, .inl (by rw [eb]; omega)⟩
    simp (config := { maxSteps := 1000000 }) +decide only [NoH, Old, OldL, nilQ, nilA, RechL, ReY, isNew, stepO, XPost, postN, XOk, updN, updU, isEff, avalue, aeff, ASt.eval, ASt.put, ASt.set, ASt.new, Nat.reduceDiv, Nat.reduceAdd, Int.reduceToNat, absV, absC, scalar, alen, acap, conc, flats, live, blkOf, aload, rd, part?, afieldAddr, afield, aindexAddr, cellsOf, afill, places, abuild, optI, asliceV, asliceS, szOk, srcCells, aappend, astore, amakeSlice, abuildSlice, snapL, mapO, treeL, AVal.tree, AVal.flatT, isFlat, ares, isFz, afroz, afrozB, lookupA, lookupH, tops, if_true, if_false, reduceCtorEq, forall_const, ite_true, ite_false, implies_true, walkS, tabS, Try.results13, eq_false hin, eb, hwc]
    refine ⟨⟨c + 1, clt⟩, ?_, hm⟩
    refine weak_mk rfl (by first | exact Nat.le_refl _ | (simp only [mk_gen]; omega)) ?_ ?_ <;> simp +decide only [w_lookup_nil, w_lookup_cons, ch_ch, ch_lit, lit_ch, wkT, wkH, wkB, WVL, WV_refl', Int.natCast_zero, Int.natCast_add, Int.natCast_one, Nat.sub_self, Nat.sub_zero, List.replicate_zero, List.take_zero, List.nil_append, List.append_nil, fillC_zero, Nat.reduceDiv, Nat.reduceAdd, upd_bk, bk_at, getB_zero, getB_succ, modB_zero, modB_succ, rows_lit, repB_zero, repB_succ, List.length_cons, List.length_nil, upd_upd_same, upd_apply, mk_tmp, mk_heap, mk_gen, lookupA, lookupH, List.getD_cons_zero, List.getD_cons_succ, init_two, tops, Bool.true_and, and_self, and_true, true_and, true_or, if_true, if_false, ite_true, ite_false, reduceCtorEq, reduceIte, bsU_yes yes]
  · have hm0 : ¬ (m : Int) < 0 := by omega
    simp (config := { maxSteps := 1000000 }) +decide only [NoH, Old, OldL, nilQ, nilA, RechL, ReY, isNew, stepO, XPost, postN, XOk, updN, updU, isEff, avalue, aeff, ASt.eval, ASt.put, ASt.set, ASt.new, Nat.reduceDiv, Nat.reduceAdd, Int.reduceToNat, absV, absC, scalar, alen, acap, conc, flats, live, blkOf, aload, rd, part?, afieldAddr, afield, aindexAddr, cellsOf, afill, places, abuild, optI, asliceV, asliceS, szOk, srcCells, aappend, astore, amakeSlice, abuildSlice, snapL, mapO, treeL, AVal.tree, AVal.flatT, isFlat, ares, isFz, afroz, afrozB, lookupA, lookupH, tops, if_true, if_false, reduceCtorEq, forall_const, ite_true, ite_false, implies_true, walkS, tabS, Try.results13, eq_false hin, eb, hm0, hwc]
    refine callK (dg c clt) (by first | exact .inl rfl | exact .inr rfl) ?_
    simp (config := { maxSteps := 1000000 }) +decide only [NoH, Old, OldL, nilQ, nilA, RechL, ReY, isNew, stepO, XPost, postN, XOk, updN, updU, isEff, avalue, aeff, ASt.eval, ASt.put, ASt.set, ASt.new, Nat.reduceDiv, Nat.reduceAdd, Int.reduceToNat, absV, absC, scalar, alen, acap, conc, flats, live, blkOf, aload, rd, part?, afieldAddr, afield, aindexAddr, cellsOf, afill, places, abuild, optI, asliceV, asliceS, szOk, srcCells, aappend, astore, amakeSlice, abuildSlice, snapL, mapO, treeL, AVal.tree, AVal.flatT, isFlat, ares, isFz, afroz, afrozB, lookupA, lookupH, tops, if_true, if_false, reduceCtorEq, forall_const, ite_true, ite_false, implies_true, walkS, tabS, Try.results13, eb]
    refine callK (dg m (by omega)) (by first | exact .inl rfl | exact .inr rfl) ?_
    by_cases hq : gnV ws cv (chK ws cv k) m < gnV ws cv (chK ws cv k) c
    · have yes : bsQ ws cv (chK ws cv k) (bsU ws cv (chK ws cv k) c) c := ⟨hin, .inr (by rw [eb]; exact hq)⟩
      simp (config := { maxSteps := 1000000 }) +decide only [NoH, Old, OldL, nilQ, nilA, RechL, ReY, isNew, stepO, XPost, postN, XOk, updN, updU, isEff, avalue, aeff, ASt.eval, ASt.put, ASt.set, ASt.new, Nat.reduceDiv, Nat.reduceAdd, Int.reduceToNat, absV, absC, scalar, alen, acap, conc, flats, live, blkOf, aload, rd, part?, afieldAddr, afield, aindexAddr, cellsOf, afill, places, abuild, optI, asliceV, asliceS, szOk, srcCells, aappend, astore, amakeSlice, abuildSlice, snapL, mapO, treeL, AVal.tree, AVal.flatT, isFlat, ares, isFz, afroz, afrozB, lookupA, lookupH, tops, if_true, if_false, reduceCtorEq, forall_const, ite_true, ite_false, implies_true, walkS, tabS, Try.results13, eq_true hq, eq_false hin, hwc]
      refine ⟨⟨c + 1, clt⟩, ?_, hm⟩
      refine weak_mk rfl (by first | exact Nat.le_refl _ | (simp only [mk_gen]; omega)) ?_ ?_ <;> simp +decide only [w_lookup_nil, w_lookup_cons, ch_ch, ch_lit, lit_ch, wkT, wkH, wkB, WVL, WV_refl', Int.natCast_zero, Int.natCast_add, Int.natCast_one, Nat.sub_self, Nat.sub_zero, List.replicate_zero, List.take_zero, List.nil_append, List.append_nil, fillC_zero, Nat.reduceDiv, Nat.reduceAdd, upd_bk, bk_at, getB_zero, getB_succ, modB_zero, modB_succ, rows_lit, repB_zero, repB_succ, List.length_cons, List.length_nil, upd_upd_same, upd_apply, mk_tmp, mk_heap, mk_gen, lookupA, lookupH, List.getD_cons_zero, List.getD_cons_succ, init_two, tops, Bool.true_and, and_self, and_true, true_and, true_or, if_true, if_false, ite_true, ite_false, reduceCtorEq, reduceIte, bsU_yes yes]
    · have no : ¬ bsQ ws cv (chK ws cv k) (bsU ws cv (chK ws cv k) c) c := fun h => by
        rcases h.2 with h | h
        · rw [eb] at h; omega
        · rw [eb] at h; exact hq h
      simp (config := { maxSteps := 1000000 }) +decide only [NoH, Old, OldL, nilQ, nilA, RechL, ReY, isNew, stepO, XPost, postN, XOk, updN, updU, isEff, avalue, aeff, ASt.eval, ASt.put, ASt.set, ASt.new, Nat.reduceDiv, Nat.reduceAdd, Int.reduceToNat, absV, absC, scalar, alen, acap, conc, flats, live, blkOf, aload, rd, part?, afieldAddr, afield, aindexAddr, cellsOf, afill, places, abuild, optI, asliceV, asliceS, szOk, srcCells, aappend, astore, amakeSlice, abuildSlice, snapL, mapO, treeL, AVal.tree, AVal.flatT, isFlat, ares, isFz, afroz, afrozB, lookupA, lookupH, tops, if_true, if_false, reduceCtorEq, forall_const, ite_true, ite_false, implies_true, walkS, tabS, Try.results13, eq_false hq, eq_false hin, hwc]
      refine ⟨⟨c + 1, clt⟩, ?_, hm⟩
      refine weak_mk rfl (by first | exact Nat.le_refl _ | (simp only [mk_gen]; omega)) ?_ ?_ <;> simp +decide only [w_lookup_nil, w_lookup_cons, ch_ch, ch_lit, lit_ch, wkT, wkH, wkB, WVL, WV_refl', Int.natCast_zero, Int.natCast_add, Int.natCast_one, Nat.sub_self, Nat.sub_zero, List.replicate_zero, List.take_zero, List.nil_append, List.append_nil, fillC_zero, Nat.reduceDiv, Nat.reduceAdd, upd_bk, bk_at, getB_zero, getB_succ, modB_zero, modB_succ, rows_lit, repB_zero, repB_succ, List.length_cons, List.length_nil, upd_upd_same, upd_apply, mk_tmp, mk_heap, mk_gen, lookupA, lookupH, List.getD_cons_zero, List.getD_cons_succ, init_two, tops, Bool.true_and, and_self, and_true, true_and, true_or, if_true, if_false, ite_true, ite_false, reduceCtorEq, reduceIte, bsU_no no, eb]
end Go.Proofs.Ytocbojbgadcpcaa
