/-
  OWN WORK: the program's search for the cheapest cover.
-/
import Derived.Test.YtocbojbgadcpcaaSiI
namespace Go.Proofs.Ytocbojbgadcpcaa
open Go Go.Own Go.Proofs
set_option maxHeartbeats 4000000
set_option maxRecDepth 20000
set_option linter.unusedSimpArgs false
theorem plK_full {q : Int → Prop} : ∀ n : Nat, (plK q n).length = n ↔ ∀ k : Nat, k < n → q k
  | 0 => by simp [plK]
  | n + 1 => by
    have ih := plK_full (q := q) n
    have hle := plK_le q n
    by_cases h : q n
    · rw [plK_yes h, List.length_append, List.length_cons, List.length_nil]
      constructor
      · intro e k hk
        by_cases ek : k = n
        · subst ek; exact h
        · exact ih.1 (by omega) k (by omega)
      · intro hk
        have := ih.2 fun k h' => hk k (by omega)
        omega
    · rw [plK_no h]
      exact ⟨fun e => by omega, fun hk => (h (hk n (by omega))).elim⟩
theorem plK_empty {q : Int → Prop} : ∀ n : Nat, (plK q n).length = 0 ↔ ∀ k : Nat, k < n → ¬ q k
  | 0 => by simp [plK]
  | n + 1 => by
    have ih := plK_empty (q := q) n
    by_cases h : q n
    · rw [plK_yes h, List.length_append, List.length_cons, List.length_nil]
      exact ⟨fun e => by omega, fun hk => (hk n (by omega) h).elim⟩
    · rw [plK_no h, ih]
      constructor
      · intro e k hk
        by_cases ek : k = n
        · subst ek; exact h
        · exact e k (by omega)
      · exact fun e k hk => e k (by omega)
theorem all_iff (ws : List Int) (cv : List (List Int)) (ch : List Int) : (covL ws cv ch).length = ws.length ↔ (plW ws cv ch false).length = 0 := by
  unfold covL plW
  rw [plK_full, plK_empty]
  refine forall_congr' fun k => ?_
  rw [bp_false]
  simp
noncomputable def leafV (ws : List Int) (cv : List (List Int)) (cs ch : List Int) (s : SS) : Option SS :=
  if (plW ws cv ch false).length = 0 then some (if s.m < 0 ∨ sumAt cs ch < s.m then ⟨s.b, sumAt cs ch, ch⟩ else s) else if 0 ≤ s.m ∧ s.m ≤ sumAt cs ch then some s else none
theorem cost_nonneg {ws : List Int} {cv : List (List Int)} {cs ch : List Int} (hsit : OkSit ws cv cs) (h : ch.length ≤ 20) : 0 ≤ sumAt cs ch := by
  obtain ⟨a1, a2, _⟩ := sumAt_wsum (ws := cs) (fun i hi => by have := hsit.cost i hi; omega) _ ch rfl (by omega)
  rw [a1]
  exact a2
theorem leafV_ok {ws : List Int} {cv : List (List Int)} {cs : List Int} (hsit : OkSit ws cv cs) : LeafOk cv (leafV ws cv cs) := by
  intro ch s s' hch h
  have h1 := hch.le
  have h2 := hch.nx
  have h3 := hsit.c2
  have hc := cost_nonneg hsit (ch := ch) (by omega)
  unfold leafV at h
  split at h
  · simp only [Option.some.injEq] at h
    subst h
    split
    · exact ⟨rfl, fun _ => by show -1 ≤ sumAt cs ch; omega, fun _ h => h⟩
    · exact ⟨rfl, id, fun h _ => h⟩
  · split at h
    · simp only [Option.some.injEq] at h
      subst h
      exact ⟨rfl, id, fun h _ => h⟩
    · simp at h
theorem denx_coverStep (ws : List Int) (cv : List (List Int)) (cs : List Int) (hsit : OkSit ws cv cs) (f : Nat)
    (ih : ∀ (ch : List Int) (s : SS), cv.length - nextOf ch < f → Chn cv ch → 0 ≤ s.b → SOk s → DenX Try.prog 38 [seT ws cv cs ch s] [seT ws cv cs ch (node (leafV ws cv cs) cv.length f ch s)] (.tup []))
    (ch : List Int) (s : SS) (hf : cv.length - nextOf ch < f + 1) (hch : Chn cv ch) (h0 : 0 ≤ s.b) (hs : SOk s) : DenX Try.prog 38 [seT ws cv cs ch s] [seT ws cv cs ch (node (leafV ws cv cs) cv.length (f + 1) ch s)] (.tup []) := by
  have hn := hsit.c2
  have hw := hsit.w2
  obtain ⟨b, m, best⟩ := s
  have hlo := hs.lo
  have hhi := hs.hi
  have hm1 := hs.m
  have hbl := hs.best
  have hle := hch.le
  have hnx := hch.nx
  simp only at h0 hlo hhi hm1 hbl
  have hw0 : IntKind.i64.wrap (b - 1) = b - 1 := wrap64 (by omega) (by omega)
  generalize hr : node (leafV ws cv cs) cv.length (f + 1) ch ⟨b, m, best⟩ = r
  unfold node at hr
  simp only at hr
  have htk : List.take ch.length ch = ch := List.take_of_length_le (by omega)
  have htb : List.take best.length best = best := List.take_of_length_le (by omega)
  refine denx_of_awpG (ghs [] [99]) Try.func38 rfl (by kernel_rfl) (Nat.le_of_ble_eq_true rfl) (by simp +decide only [w_embA_nil, w_embA_cons, w_emb_v, w_emb_ol, w_emb_op, w_emb_agg, w_emb_tup, w_embL_nil, w_embL_cons, embL_i, List.map_cons, List.map_nil, List.nil_append, List.append_nil, List.cons_append, List.nodup_cons, List.nodup_nil, List.mem_cons, List.mem_nil_iff, List.not_mem_nil, ch_ch, ch_lit, lit_ch, Nat.reduceAdd]) mixed (by kernel_rfl) fun hl => ?_
  simp only [xlensL, xlens, lensL, lens, lensL_i, lensL_mapC, xlensL_i, maxI, and_true, true_and] at hl
  rw [Try.ntmps38]
  refine ex_start ?_
  by_cases hb : b - 1 < 0
  · rw [if_pos hb] at hr
    subst hr
    simp (config := { maxSteps := 1000000 }) +decide only [NoH, Old, OldL, nilQ, nilA, RechL, ReY, isNew, stepO, XPost, postN, XOk, updN, updU, isEff, avalue, aeff, ASt.eval, ASt.put, ASt.set, ASt.new, Nat.reduceDiv, Nat.reduceAdd, Int.reduceToNat, absV, absC, scalar, alen, acap, conc, flats, live, blkOf, aload, rd, part?, afieldAddr, afield, aindexAddr, cellsOf, afill, places, abuild, optI, asliceV, asliceS, szOk, srcCells, aappend, astore, amakeSlice, abuildSlice, snapL, mapO, treeL, AVal.tree, AVal.flatT, isFlat, ares, isFz, afroz, afrozB, lookupA, lookupH, tops, if_true, if_false, reduceCtorEq, forall_const, ite_true, ite_false, implies_true, walkS, tabS, Try.results38, hw0, eq_true hb, htk, htb, one_0]
  rw [if_neg hb] at hr
  have hix : ∀ i (h : i < ch.length), ∃ n : Nat, ch[i] = n ∧ n < cs.length := fun i hi => by rw [hsit.len]; exact hch.idx i hi
  simp (config := { maxSteps := 1000000 }) +decide only [NoH, Old, OldL, nilQ, nilA, RechL, ReY, isNew, stepO, XPost, postN, XOk, updN, updU, isEff, avalue, aeff, ASt.eval, ASt.put, ASt.set, ASt.new, Nat.reduceDiv, Nat.reduceAdd, Int.reduceToNat, absV, absC, scalar, alen, acap, conc, flats, live, blkOf, aload, rd, part?, afieldAddr, afield, aindexAddr, cellsOf, afill, places, abuild, optI, asliceV, asliceS, szOk, srcCells, aappend, astore, amakeSlice, abuildSlice, snapL, mapO, treeL, AVal.tree, AVal.flatT, isFlat, ares, isFz, afroz, afrozB, lookupA, lookupH, tops, if_true, if_false, reduceCtorEq, forall_const, ite_true, ite_false, implies_true, walkS, tabS, Try.results38, hw0, eq_false hb, htk, htb]
  refine callK (den_cost ws cv cs ch hix) (by first | exact .inl rfl | exact .inr rfl) ?_
  simp (config := { maxSteps := 1000000 }) +decide only [NoH, Old, OldL, nilQ, nilA, RechL, ReY, isNew, stepO, XPost, postN, XOk, updN, updU, isEff, avalue, aeff, ASt.eval, ASt.put, ASt.set, ASt.new, Nat.reduceDiv, Nat.reduceAdd, Int.reduceToNat, absV, absC, scalar, alen, acap, conc, flats, live, blkOf, aload, rd, part?, afieldAddr, afield, aindexAddr, cellsOf, afill, places, abuild, optI, asliceV, asliceS, szOk, srcCells, aappend, astore, amakeSlice, abuildSlice, snapL, mapO, treeL, AVal.tree, AVal.flatT, isFlat, ares, isFz, afroz, afrozB, lookupA, lookupH, tops, if_true, if_false, reduceCtorEq, forall_const, ite_true, ite_false, implies_true, walkS, tabS, Try.results38, htk, htb]
  refine callX (denx_placesWhere ws cv cs ch false hch.idx (by omega)) (by simp (config := { maxSteps := 1000000 }) +decide only [NoH, Old, OldL, nilQ, nilA, RechL, ReY, isNew, stepO, XPost, postN, XOk, updN, updU, isEff, avalue, aeff, ASt.eval, ASt.put, ASt.set, ASt.new, Nat.reduceDiv, Nat.reduceAdd, Int.reduceToNat, absV, absC, scalar, alen, acap, conc, flats, live, blkOf, aload, rd, part?, afieldAddr, afield, aindexAddr, cellsOf, afill, places, abuild, optI, asliceV, asliceS, szOk, srcCells, aappend, astore, amakeSlice, abuildSlice, snapL, mapO, treeL, AVal.tree, AVal.flatT, isFlat, ares, isFz, afroz, afrozB, lookupA, lookupH, tops, if_true, if_false, reduceCtorEq, forall_const, ite_true, ite_false, implies_true, walkS, tabS, Try.results38, htk, htb]) ?_
  generalize hco : sumAt cs ch = co
  by_cases hc : (plW ws cv ch false).length = 0
  · have el : leafV ws cv cs ch ⟨b - 1, m, best⟩ = some (if m < 0 ∨ co < m then ⟨b - 1, co, ch⟩ else ⟨b - 1, m, best⟩) := by
      unfold leafV
      rw [if_pos hc, hco]
    rw [el] at hr
    simp only at hr
    have hc' : ((plW ws cv ch false).length : Int) = 0 := by omega
    by_cases hm : m < 0 ∨ co < m
    · rw [if_pos hm] at hr
      subst hr
      by_cases hm1 : m < 0
      · simp (config := { maxSteps := 1000000 }) +decide only [NoH, Old, OldL, nilQ, nilA, RechL, ReY, isNew, stepO, XPost, postN, XOk, updN, updU, isEff, avalue, aeff, ASt.eval, ASt.put, ASt.set, ASt.new, Nat.reduceDiv, Nat.reduceAdd, Int.reduceToNat, absV, absC, scalar, alen, acap, conc, flats, live, blkOf, aload, rd, part?, afieldAddr, afield, aindexAddr, cellsOf, afill, places, abuild, optI, asliceV, asliceS, szOk, srcCells, aappend, astore, amakeSlice, abuildSlice, snapL, mapO, treeL, AVal.tree, AVal.flatT, isFlat, ares, isFz, afroz, afrozB, lookupA, lookupH, tops, if_true, if_false, reduceCtorEq, forall_const, ite_true, ite_false, implies_true, walkS, tabS, Try.results38, eq_true hc', eq_true hm1, htk, htb]
        refine callX (denx_Clone ch (by omega)) (by simp (config := { maxSteps := 1000000 }) +decide only [NoH, Old, OldL, nilQ, nilA, RechL, ReY, isNew, stepO, XPost, postN, XOk, updN, updU, isEff, avalue, aeff, ASt.eval, ASt.put, ASt.set, ASt.new, Nat.reduceDiv, Nat.reduceAdd, Int.reduceToNat, absV, absC, scalar, alen, acap, conc, flats, live, blkOf, aload, rd, part?, afieldAddr, afield, aindexAddr, cellsOf, afill, places, abuild, optI, asliceV, asliceS, szOk, srcCells, aappend, astore, amakeSlice, abuildSlice, snapL, mapO, treeL, AVal.tree, AVal.flatT, isFlat, ares, isFz, afroz, afrozB, lookupA, lookupH, tops, if_true, if_false, reduceCtorEq, forall_const, ite_true, ite_false, implies_true, walkS, tabS, Try.results38, htk, htb]) ?_
        simp (config := { maxSteps := 1000000 }) +decide only [NoH, Old, OldL, nilQ, nilA, RechL, ReY, isNew, stepO, XPost, postN, XOk, updN, updU, isEff, avalue, aeff, ASt.eval, ASt.put, ASt.set, ASt.new, Nat.reduceDiv, Nat.reduceAdd, Int.reduceToNat, absV, absC, scalar, alen, acap, conc, flats, live, blkOf, aload, rd, part?, afieldAddr, afield, aindexAddr, cellsOf, afill, places, abuild, optI, asliceV, asliceS, szOk, srcCells, aappend, astore, amakeSlice, abuildSlice, snapL, mapO, treeL, AVal.tree, AVal.flatT, isFlat, ares, isFz, afroz, afrozB, lookupA, lookupH, tops, if_true, if_false, reduceCtorEq, forall_const, ite_true, ite_false, implies_true, walkS, tabS, Try.results38, htk, htb, one_0]
      · have hm2 : co < m := hm.resolve_left hm1
        simp (config := { maxSteps := 1000000 }) +decide only [NoH, Old, OldL, nilQ, nilA, RechL, ReY, isNew, stepO, XPost, postN, XOk, updN, updU, isEff, avalue, aeff, ASt.eval, ASt.put, ASt.set, ASt.new, Nat.reduceDiv, Nat.reduceAdd, Int.reduceToNat, absV, absC, scalar, alen, acap, conc, flats, live, blkOf, aload, rd, part?, afieldAddr, afield, aindexAddr, cellsOf, afill, places, abuild, optI, asliceV, asliceS, szOk, srcCells, aappend, astore, amakeSlice, abuildSlice, snapL, mapO, treeL, AVal.tree, AVal.flatT, isFlat, ares, isFz, afroz, afrozB, lookupA, lookupH, tops, if_true, if_false, reduceCtorEq, forall_const, ite_true, ite_false, implies_true, walkS, tabS, Try.results38, eq_true hc', eq_false hm1, eq_true hm2, htk, htb]
        refine callX (denx_Clone ch (by omega)) (by simp (config := { maxSteps := 1000000 }) +decide only [NoH, Old, OldL, nilQ, nilA, RechL, ReY, isNew, stepO, XPost, postN, XOk, updN, updU, isEff, avalue, aeff, ASt.eval, ASt.put, ASt.set, ASt.new, Nat.reduceDiv, Nat.reduceAdd, Int.reduceToNat, absV, absC, scalar, alen, acap, conc, flats, live, blkOf, aload, rd, part?, afieldAddr, afield, aindexAddr, cellsOf, afill, places, abuild, optI, asliceV, asliceS, szOk, srcCells, aappend, astore, amakeSlice, abuildSlice, snapL, mapO, treeL, AVal.tree, AVal.flatT, isFlat, ares, isFz, afroz, afrozB, lookupA, lookupH, tops, if_true, if_false, reduceCtorEq, forall_const, ite_true, ite_false, implies_true, walkS, tabS, Try.results38, htk, htb]) ?_
        simp (config := { maxSteps := 1000000 }) +decide only [NoH, Old, OldL, nilQ, nilA, RechL, ReY, isNew, stepO, XPost, postN, XOk, updN, updU, isEff, avalue, aeff, ASt.eval, ASt.put, ASt.set, ASt.new, Nat.reduceDiv, Nat.reduceAdd, Int.reduceToNat, absV, absC, scalar, alen, acap, conc, flats, live, blkOf, aload, rd, part?, afieldAddr, afield, aindexAddr, cellsOf, afill, places, abuild, optI, asliceV, asliceS, szOk, srcCells, aappend, astore, amakeSlice, abuildSlice, snapL, mapO, treeL, AVal.tree, AVal.flatT, isFlat, ares, isFz, afroz, afrozB, lookupA, lookupH, tops, if_true, if_false, reduceCtorEq, forall_const, ite_true, ite_false, implies_true, walkS, tabS, Try.results38, htk, htb, one_0]
    · rw [if_neg hm] at hr
      subst hr
      have hm1 : ¬ m < 0 := fun h => hm (.inl h)
      have hm2 : ¬ co < m := fun h => hm (.inr h)
      simp (config := { maxSteps := 1000000 }) +decide only [NoH, Old, OldL, nilQ, nilA, RechL, ReY, isNew, stepO, XPost, postN, XOk, updN, updU, isEff, avalue, aeff, ASt.eval, ASt.put, ASt.set, ASt.new, Nat.reduceDiv, Nat.reduceAdd, Int.reduceToNat, absV, absC, scalar, alen, acap, conc, flats, live, blkOf, aload, rd, part?, afieldAddr, afield, aindexAddr, cellsOf, afill, places, abuild, optI, asliceV, asliceS, szOk, srcCells, aappend, astore, amakeSlice, abuildSlice, snapL, mapO, treeL, AVal.tree, AVal.flatT, isFlat, ares, isFz, afroz, afrozB, lookupA, lookupH, tops, if_true, if_false, reduceCtorEq, forall_const, ite_true, ite_false, implies_true, walkS, tabS, Try.results38, eq_true hc', eq_false hm1, eq_false hm2, htk, htb, one_0]
  have hc' : ¬ ((plW ws cv ch false).length : Int) = 0 := by omega
  by_cases hm : 0 ≤ m ∧ m ≤ co
  · have el : leafV ws cv cs ch ⟨b - 1, m, best⟩ = some ⟨b - 1, m, best⟩ := by
      unfold leafV
      rw [if_neg hc, hco, if_pos hm]
    rw [el] at hr
    simp only at hr
    subst hr
    simp (config := { maxSteps := 1000000 }) +decide only [NoH, Old, OldL, nilQ, nilA, RechL, ReY, isNew, stepO, XPost, postN, XOk, updN, updU, isEff, avalue, aeff, ASt.eval, ASt.put, ASt.set, ASt.new, Nat.reduceDiv, Nat.reduceAdd, Int.reduceToNat, absV, absC, scalar, alen, acap, conc, flats, live, blkOf, aload, rd, part?, afieldAddr, afield, aindexAddr, cellsOf, afill, places, abuild, optI, asliceV, asliceS, szOk, srcCells, aappend, astore, amakeSlice, abuildSlice, snapL, mapO, treeL, AVal.tree, AVal.flatT, isFlat, ares, isFz, afroz, afrozB, lookupA, lookupH, tops, if_true, if_false, reduceCtorEq, forall_const, ite_true, ite_false, implies_true, walkS, tabS, Try.results38, eq_false hc', eq_true hm.1, eq_true hm.2, htk, htb, one_0]
  have el : leafV ws cv cs ch ⟨b - 1, m, best⟩ = none := by
    unfold leafV
    rw [if_neg hc, hco, if_neg hm]
  rw [el] at hr
  simp only at hr
  by_cases hma : 0 ≤ m
  case' pos =>
    have hmb : ¬ m ≤ co := fun h => hm ⟨hma, h⟩
    simp (config := { maxSteps := 1000000 }) +decide only [NoH, Old, OldL, nilQ, nilA, RechL, ReY, isNew, stepO, XPost, postN, XOk, updN, updU, isEff, avalue, aeff, ASt.eval, ASt.put, ASt.set, ASt.new, Nat.reduceDiv, Nat.reduceAdd, Int.reduceToNat, absV, absC, scalar, alen, acap, conc, flats, live, blkOf, aload, rd, part?, afieldAddr, afield, aindexAddr, cellsOf, afill, places, abuild, optI, asliceV, asliceS, szOk, srcCells, aappend, astore, amakeSlice, abuildSlice, snapL, mapO, treeL, AVal.tree, AVal.flatT, isFlat, ares, isFz, afroz, afrozB, lookupA, lookupH, tops, if_true, if_false, reduceCtorEq, forall_const, ite_true, ite_false, implies_true, walkS, tabS, Try.results38, eq_false hc', eq_true hma, eq_false hmb, htk, htb]
  case' neg =>
    simp (config := { maxSteps := 1000000 }) +decide only [NoH, Old, OldL, nilQ, nilA, RechL, ReY, isNew, stepO, XPost, postN, XOk, updN, updU, isEff, avalue, aeff, ASt.eval, ASt.put, ASt.set, ASt.new, Nat.reduceDiv, Nat.reduceAdd, Int.reduceToNat, absV, absC, scalar, alen, acap, conc, flats, live, blkOf, aload, rd, part?, afieldAddr, afield, aindexAddr, cellsOf, afill, places, abuild, optI, asliceV, asliceS, szOk, srcCells, aappend, astore, amakeSlice, abuildSlice, snapL, mapO, treeL, AVal.tree, AVal.flatT, isFlat, ares, isFz, afroz, afrozB, lookupA, lookupH, tops, if_true, if_false, reduceCtorEq, forall_const, ite_true, ite_false, implies_true, walkS, tabS, Try.results38, eq_false hc', eq_false hma, htk, htb]
  all_goals
    refine callK (den_next ws cv cs ch best _ _ hch hn) (by first | exact .inl rfl | exact .inr rfl) ?_
    simp (config := { maxSteps := 1000000 }) +decide only [NoH, Old, OldL, nilQ, nilA, RechL, ReY, isNew, stepO, XPost, postN, XOk, updN, updU, isEff, avalue, aeff, ASt.eval, ASt.put, ASt.set, ASt.new, Nat.reduceDiv, Nat.reduceAdd, Int.reduceToNat, absV, absC, scalar, alen, acap, conc, flats, live, blkOf, aload, rd, part?, afieldAddr, afield, aindexAddr, cellsOf, afill, places, abuild, optI, asliceV, asliceS, szOk, srcCells, aappend, astore, amakeSlice, abuildSlice, snapL, mapO, treeL, AVal.tree, AVal.flatT, isFlat, ares, isFz, afroz, afrozB, lookupA, lookupH, tops, if_true, if_false, reduceCtorEq, forall_const, ite_true, ite_false, implies_true, walkS, tabS, Try.results38]
    have hr0 : kids (node (leafV ws cv cs) cv.length f) ch (cv.length - nextOf ch) (nextOf ch) ⟨b - 1, m, best⟩ = r := hr
    have hsok : SOk ⟨b - 1, m, best⟩ := ⟨by show -1 ≤ b - 1; omega, by show b - 1 ≤ 20000; omega, hm1, hbl⟩
    refine ex_loop (fun p : {p : Nat × SS × Nat × Nat × Nat × List Int // nextOf ch ≤ p.1 ∧ p.1 ≤ cv.length ∧ SOk p.2.1 ∧ kids (node (leafV ws cv cs) cv.length f) ch (cv.length - p.1) p.1 p.2.1 = r} => mkG (ghs [] [99]) [(0, .ptr 0 0 0), (3, .i p.1.1)] [(0, ⟨0, 7, [ints ws, intss cv, ints cs, .i p.1.2.1.b, .own (Own.ch 0 4) p.1.2.2.1 0 ch.length, .own (Own.ch 0 5) p.1.2.2.2.1 0 p.1.2.1.best.length, .i p.1.2.1.m]⟩), (Own.ch 0 4, ⟨p.1.2.2.1, 1, mapC AVal.i (ch ++ p.1.2.2.2.2.2)⟩), (Own.ch 0 5, ⟨p.1.2.2.2.1, 1, mapC AVal.i p.1.2.1.best⟩)] p.1.2.2.2.2.1 119) (fun p => cv.length - p.1.1) ⟨(nextOf ch, ⟨b - 1, m, best⟩, 0, 0, 2, []), Nat.le_refl _, hnx, hsok, hr0⟩ ?_ ?_
    · refine weak_mk rfl (by first | exact Nat.le_refl _ | (simp only [mk_gen]; omega)) ?_ ?_ <;> simp +decide only [w_lookup_nil, w_lookup_cons, ch_ch, ch_lit, lit_ch, wkT, wkH, wkB, WVL, WV_refl', Int.natCast_zero, Int.natCast_add, Int.natCast_one, Nat.sub_self, Nat.sub_zero, List.replicate_zero, List.take_zero, List.nil_append, List.append_nil, fillC_zero, Nat.reduceDiv, Nat.reduceAdd, upd_bk, bk_at, getB_zero, getB_succ, modB_zero, modB_succ, rows_lit, repB_zero, repB_succ, List.length_cons, List.length_nil, upd_upd_same, upd_apply, mk_tmp, mk_heap, mk_gen, lookupA, lookupH, List.getD_cons_zero, List.getD_cons_succ, init_two, tops, Bool.true_and, and_self, and_true, true_and, true_or, if_true, if_false, ite_true, ite_false, reduceCtorEq, reduceIte, List.append_nil]
    rintro ⟨⟨c, s, g4, g5, G, tl⟩, q1, q2, q3, q4⟩
    have q1' : nextOf ch ≤ c := q1
    have q2' : c ≤ cv.length := q2
    have q3' : SOk s := q3
    have q4' : kids (node (leafV ws cv cs) cv.length f) ch (cv.length - c) c s = r := q4
    have htl : List.take ch.length (ch ++ tl) = ch := by rw [List.take_append_of_le_length (Nat.le_refl _), List.take_length]
    have hll : (ch ++ tl).length = ch.length + tl.length := List.length_append
    obtain ⟨sb, sm, sbest⟩ := s
    have s1 := q3'.lo
    have s2 := q3'.hi
    have s4 := q3'.best
    simp only at s1 s2 s4
    have hts : List.take sbest.length sbest = sbest := List.take_of_length_le (by omega)
    by_cases clt : c < cv.length
    case neg =>
      have e : cv.length - c = 0 := by omega
      rw [e] at q4'
      unfold kids at q4'
      subst q4'
      simp (config := { maxSteps := 1000000 }) +decide only [NoH, Old, OldL, nilQ, nilA, RechL, ReY, isNew, stepO, XPost, postN, XOk, updN, updU, isEff, avalue, aeff, ASt.eval, ASt.put, ASt.set, ASt.new, Nat.reduceDiv, Nat.reduceAdd, Int.reduceToNat, absV, absC, scalar, alen, acap, conc, flats, live, blkOf, aload, rd, part?, afieldAddr, afield, aindexAddr, cellsOf, afill, places, abuild, optI, asliceV, asliceS, szOk, srcCells, aappend, astore, amakeSlice, abuildSlice, snapL, mapO, treeL, AVal.tree, AVal.flatT, isFlat, ares, isFz, afroz, afrozB, lookupA, lookupH, tops, if_true, if_false, reduceCtorEq, forall_const, ite_true, ite_false, implies_true, walkS, tabS, Try.results38, clt, htl, hll, hts, one_0, Nat.le_add_right]
    by_cases hb0 : 0 ≤ sb
    case neg =>
      have e : cv.length - c = (cv.length - (c + 1)) + 1 := by omega
      rw [e] at q4'
      unfold kids at q4'
      simp only at q4'
      rw [if_pos (show sb < 0 by omega)] at q4'
      subst q4'
      simp (config := { maxSteps := 1000000 }) +decide only [NoH, Old, OldL, nilQ, nilA, RechL, ReY, isNew, stepO, XPost, postN, XOk, updN, updU, isEff, avalue, aeff, ASt.eval, ASt.put, ASt.set, ASt.new, Nat.reduceDiv, Nat.reduceAdd, Int.reduceToNat, absV, absC, scalar, alen, acap, conc, flats, live, blkOf, aload, rd, part?, afieldAddr, afield, aindexAddr, cellsOf, afill, places, abuild, optI, asliceV, asliceS, szOk, srcCells, aappend, astore, amakeSlice, abuildSlice, snapL, mapO, treeL, AVal.tree, AVal.flatT, isFlat, ares, isFz, afroz, afrozB, lookupA, lookupH, tops, if_true, if_false, reduceCtorEq, forall_const, ite_true, ite_false, implies_true, walkS, tabS, Try.results38, clt, eq_false hb0, htl, hll, hts, one_0, Nat.le_add_right]
    have e : cv.length - c = (cv.length - (c + 1)) + 1 := by omega
    rw [e] at q4'
    unfold kids at q4'
    simp only at q4'
    rw [if_neg (show ¬ sb < 0 by omega)] at q4'
    have hc1 := chn_snoc hch q1' clt
    have hx := ih (ch ++ [(c : Int)]) ⟨sb, sm, sbest⟩ (by rw [nextOf_snoc]; omega) hc1 hb0 q3'
    have hk := node_ok (leafV_ok hsit) hn f (ch ++ [(c : Int)]) ⟨sb, sm, sbest⟩ hc1 hb0 q3'
    generalize node (leafV ws cv cs) cv.length f (ch ++ [(c : Int)]) ⟨sb, sm, sbest⟩ = s' at hx hk q4'
    obtain ⟨tb, tm, tbest⟩ := s'
    have hwc : IntKind.i64.wrap ((c : Int) + 1) = ((c + 1 : Nat) : Int) := wrap64 (by omega) (by omega)
    have h8 : (ch.length + 1) * 8 ≤ 140737488355328 := by omega
    have hlc : (ch ++ [(c : Int)]).length = ch.length + 1 := by simp
    have htc : List.take (ch.length + 1) (ch ++ [(c : Int)]) = ch ++ [(c : Int)] := List.take_of_length_le (by omega)
    have hwl : IntKind.i64.wrap (((ch.length + 1 : Nat) : Int) - 1) = (ch.length : Int) := (wrap64 (by omega) (by omega)).trans (by omega)
    have hl1 : ch.length ≤ ch.length + 1 := by omega
    simp only [seT, xints, hlc] at hx
    simp (config := { maxSteps := 1000000 }) +decide only [NoH, Old, OldL, nilQ, nilA, RechL, ReY, isNew, stepO, XPost, postN, XOk, updN, updU, isEff, avalue, aeff, ASt.eval, ASt.put, ASt.set, ASt.new, Nat.reduceDiv, Nat.reduceAdd, Int.reduceToNat, absV, absC, scalar, alen, acap, conc, flats, live, blkOf, aload, rd, part?, afieldAddr, afield, aindexAddr, cellsOf, afill, places, abuild, optI, asliceV, asliceS, szOk, srcCells, aappend, astore, amakeSlice, abuildSlice, snapL, mapO, treeL, AVal.tree, AVal.flatT, isFlat, ares, isFz, afroz, afrozB, lookupA, lookupH, tops, if_true, if_false, reduceCtorEq, forall_const, ite_true, ite_false, implies_true, walkS, tabS, Try.results38, clt, hb0, hwc, h8, htl, hll, hts, Nat.le_add_right, List.replicate_succ, List.flatten_cons, List.flatten_nil, mapC_snoc]
    have hl2 : ch.length < ch.length + 1 := by omega
    refine callX (hx) (by simp (config := { maxSteps := 1000000 }) +decide only [NoH, Old, OldL, nilQ, nilA, RechL, ReY, isNew, stepO, XPost, postN, XOk, updN, updU, isEff, avalue, aeff, ASt.eval, ASt.put, ASt.set, ASt.new, Nat.reduceDiv, Nat.reduceAdd, Int.reduceToNat, absV, absC, scalar, alen, acap, conc, flats, live, blkOf, aload, rd, part?, afieldAddr, afield, aindexAddr, cellsOf, afill, places, abuild, optI, asliceV, asliceS, szOk, srcCells, aappend, astore, amakeSlice, abuildSlice, snapL, mapO, treeL, AVal.tree, AVal.flatT, isFlat, ares, isFz, afroz, afrozB, lookupA, lookupH, tops, if_true, if_false, reduceCtorEq, forall_const, ite_true, ite_false, implies_true, walkS, tabS, Try.results38, hlc, htc, hts, htl, hl2]) ?_
    simp (config := { maxSteps := 1000000 }) +decide only [NoH, Old, OldL, nilQ, nilA, RechL, ReY, isNew, stepO, XPost, postN, XOk, updN, updU, isEff, avalue, aeff, ASt.eval, ASt.put, ASt.set, ASt.new, Nat.reduceDiv, Nat.reduceAdd, Int.reduceToNat, absV, absC, scalar, alen, acap, conc, flats, live, blkOf, aload, rd, part?, afieldAddr, afield, aindexAddr, cellsOf, afill, places, abuild, optI, asliceV, asliceS, szOk, srcCells, aappend, astore, amakeSlice, abuildSlice, snapL, mapO, treeL, AVal.tree, AVal.flatT, isFlat, ares, isFz, afroz, afrozB, lookupA, lookupH, tops, if_true, if_false, reduceCtorEq, forall_const, ite_true, ite_false, implies_true, walkS, tabS, Try.results38, hwc, hwl, hlc, htc, hl1, hl2, Nat.zero_le]
    refine ⟨⟨(c + 1, ⟨tb, tm, tbest⟩, G + 1, G + 1, G + 2, [(c : Int)]), by show nextOf ch ≤ c + 1; omega, clt, hk, q4'⟩, ?_, by show _ - (c + 1) < _ - c; omega⟩
    refine weak_mk rfl (by first | exact Nat.le_refl _ | (simp only [mk_gen]; omega)) ?_ ?_ <;> simp +decide only [w_lookup_nil, w_lookup_cons, ch_ch, ch_lit, lit_ch, wkT, wkH, wkB, WVL, WV_refl', Int.natCast_zero, Int.natCast_add, Int.natCast_one, Nat.sub_self, Nat.sub_zero, List.replicate_zero, List.take_zero, List.nil_append, List.append_nil, fillC_zero, Nat.reduceDiv, Nat.reduceAdd, upd_bk, bk_at, getB_zero, getB_succ, modB_zero, modB_succ, rows_lit, repB_zero, repB_succ, List.length_cons, List.length_nil, upd_upd_same, upd_apply, mk_tmp, mk_heap, mk_gen, lookupA, lookupH, List.getD_cons_zero, List.getD_cons_succ, init_two, tops, Bool.true_and, and_self, and_true, true_and, true_or, if_true, if_false, ite_true, ite_false, reduceCtorEq, reduceIte]
theorem denx_cover (ws : List Int) (cv : List (List Int)) (cs : List Int) (hsit : OkSit ws cv cs) : ∀ (f : Nat) (ch : List Int) (s : SS), cv.length - nextOf ch < f → Chn cv ch → 0 ≤ s.b → SOk s →
    DenX Try.prog 38 [seT ws cv cs ch s] [seT ws cv cs ch (node (leafV ws cv cs) cv.length f ch s)] (.tup [])
  | 0, _, _, h, _, _, _ => absurd h (Nat.not_lt_zero _)
  | f + 1, ch, s, hf, hch, h0, hs => denx_coverStep ws cv cs hsit f (fun ch s a b c d => denx_cover ws cv cs hsit f ch s a b c d) ch s hf hch h0 hs
end Go.Proofs.Ytocbojbgadcpcaa
