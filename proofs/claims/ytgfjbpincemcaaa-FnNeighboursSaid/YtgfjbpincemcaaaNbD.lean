/-
  OWN WORK: items for which something is so.
-/
import Derived.Test.YtgfjbpincemcaaaNbC
namespace Go.Proofs.Ytgfjbpincemcaaa
open Go Go.Own Go.Proofs
set_option maxHeartbeats 4000000
set_option maxRecDepth 20000
set_option linter.unusedSimpArgs false
theorem WVL_app {s s' : ASt} : ∀ {a a' b b' : List AVal}, WVL s s' a a' → WVL s s' b b' → WVL s s' (a ++ b) (a' ++ b')
  | [], [], _, _, _, h => h
  | [], _ :: _, _, _, h, _ => h.elim
  | _ :: _, [], _, _, h, _ => h.elim
  | _ :: _, _ :: _, _, _, h, h2 => ⟨h.1, WVL_app h.2 h2⟩
theorem famC_last {ν g : Nat} {gs : Nat → Nat} {R : List (List Int)} {r : List Int} : famC ν (upd gs R.length g) (R ++ [r]) = famC ν gs R ++ [.own (ch ν R.length) g 0 r.length] := (famC_snoc r g).symm
theorem lay_last {ν g g2 : Nat} {gs : Nat → Nat} {R : List (List Int)} {r r2 : List Int} {Z : List AVal} : lay (famC ν (upd gs R.length g) (R ++ [r]) ++ Z) R.length [.own (ch ν R.length) g2 0 r2.length] = famC ν (upd gs R.length g2) (R ++ [r2]) ++ Z := by
  have hl : (famC ν gs R).length = R.length := len_famC
  have key : ∀ (A : List AVal) (x y : AVal), lay (A ++ [x] ++ Z) A.length [y] = A ++ [y] ++ Z := fun A x y => by
    have e1 : (A ++ [x] ++ Z).take A.length = A := by rw [List.append_assoc, List.take_left]
    have e2 : (A ++ [x] ++ Z).drop (A.length + [y].length) = Z := by
      rw [show A.length + [y].length = (A ++ [x]).length by simp, List.drop_left]
    unfold lay
    rw [e1, e2]
  rw [famC_last, famC_last]
  have := key (famC ν gs R) (.own (ch ν R.length) g 0 r.length) (.own (ch ν R.length) g2 0 r2.length)
  rw [hl] at this
  exact this
theorem get_last {ν g : Nat} {gs : Nat → Nat} {R : List (List Int)} {r : List Int} {Z : List AVal} : (famC ν (upd gs R.length g) (R ++ [r]) ++ Z)[R.length]? = some (.own (ch ν R.length) g 0 r.length) := by
  have hl : (famC ν gs R).length = R.length := len_famC
  rw [famC_last, List.append_assoc, List.getElem?_append_right (by omega), hl]
  simp
theorem fam_last {s s' : ASt} {ν g G : Nat} {gs : Nat → Nat} {R : List (List Int)} {r : List Int} (hold : ∀ j (hj : j < R.length), s.heap (ch ν j) = some ⟨gs j, 1, mapC AVal.i R[j]⟩) (hlast : wkB s s' G (s.heap (ch ν R.length)) ⟨g, 1, mapC AVal.i r⟩) :
    wkH s s' G (famH ν (upd gs R.length g) (R ++ [r])) := by
  rw [wkH_fam]
  intro j hj
  have hj2 : j < R.length + 1 := by simpa using hj
  by_cases e : j = R.length
  · subst e
    have e4 : (R ++ [r])[R.length] = r := by simp
    rw [e4]
    simpa [upd] using hlast
  · have hj3 : j < R.length := by omega
    have e4 : (R ++ [r])[j] = R[j] := by rw [List.getElem_append_left hj3]
    rw [hold j hj3, e4]
    exact ⟨by simp [upd, e], rfl, .inl rfl⟩
theorem at_last {ν g : Nat} {gs : Nat → Nat} {R : List (List Int)} {r : List Int} : lookupH (famH ν (upd gs R.length g) (R ++ [r])) (ch ν R.length) = some ⟨g, 1, mapC AVal.i r⟩ := by
  have := famH_at (f := AVal.i) (ν := ν) (gs := upd gs R.length g) (ls := R ++ [r]) (j := R.length) (by simp)
  rw [this]
  simp [upd]
theorem at_old {ν g j : Nat} {gs : Nat → Nat} {R : List (List Int)} {r : List Int} (hj : j < R.length) : lookupH (famH ν (upd gs R.length g) (R ++ [r])) (ch ν j) = some ⟨gs j, 1, mapC AVal.i R[j]⟩ := by
  have := famH_at (f := AVal.i) (ν := ν) (gs := upd gs R.length g) (ls := R ++ [r]) (j := j) (by simp; omega)
  rw [this, List.getElem_append_left hj]
  have e : ¬ j = R.length := by omega
  simp [upd, e]
/-- the rows of the first i items -/
noncomputable def itR (q : Int → Int → Prop) (n : Nat) : Nat → List (List Int)
  | 0 => []
  | i + 1 => itR q n i ++ [plK (q i) n]
theorem itR_length (q : Int → Int → Prop) (n : Nat) : ∀ i, (itR q n i).length = i
  | 0 => rfl
  | i + 1 => by simp [itR, itR_length q n i]
theorem itR_le (q : Int → Int → Prop) (n : Nat) : ∀ i, ∀ x ∈ itR q n i, x.length ≤ n
  | 0, x, h => by simp [itR] at h
  | i + 1, x, h => by
    rcases List.mem_append.1 h with e | e
    · exact itR_le q n i x e
    · simp at e; subst e; exact plK_le _ _
theorem denx_itemsWhere (n : Nat) (f : FuncId) (cs : List AVal) (q : Int → Int → Prop) (hn : n ≤ 1000000) (hcs : treeL cs = true) (hp : ∀ i k : Nat, i < n → k < n → Den Try.prog f ([.i i, .i k] ++ cs) (.b (bp (q i k)))) (hs : ∀ s, snapL s cs = some cs) (hm : ∀ s, mapO (snap 5 s) cs = some cs) :
    DenX Try.prog 17 [xi n, .v (.clo f cs)] [xi n, .v (.clo f cs)] (.ol 1 (mapC xints (itR q n n)) n) := by
  refine denx_of_awp Try.func17 rfl (by kernel_rfl) (Nat.le_of_ble_eq_true rfl) (by simp +decide only [w_embA_nil, w_embA_cons, w_emb_v, w_emb_ol, w_emb_op, w_emb_agg, w_emb_tup, w_embL_nil, w_embL_cons, embL_i, List.map_cons, List.map_nil, List.nil_append, List.append_nil, List.cons_append, List.nodup_cons, List.nodup_nil, List.mem_cons, List.mem_nil_iff, List.not_mem_nil, ch_ch, ch_lit, lit_ch, Nat.reduceAdd]) mixed (by kernel_rfl) fun hl => ?_
  simp only [xlensL, xlens, lensL, lens, lensL_i, lensL_mapC, xlensL_i, maxI, and_true, true_and] at hl
  rw [Try.ntmps17]
  refine ex_start ?_
  have h8 : (n : Int) * ((24 : Nat) : Int) ≤ 281474976710656 := by omega
  have h63 : (n : Int) ≤ 9223372036854775807 := by omega
  simp (config := { maxSteps := 1000000 }) +decide only [NoH, Old, OldL, nilQ, nilA, RechL, ReY, isNew, stepO, XPost, postN, XOk, updN, updU, isEff, avalue, aeff, ASt.eval, ASt.put, ASt.set, ASt.new, Nat.reduceDiv, Nat.reduceAdd, Int.reduceToNat, absV, absC, scalar, alen, acap, conc, flats, live, blkOf, aload, rd, part?, afieldAddr, afield, aindexAddr, cellsOf, afill, places, abuild, optI, asliceV, asliceS, szOk, srcCells, aappend, astore, amakeSlice, abuildSlice, snapL, mapO, treeL, AVal.tree, AVal.flatT, isFlat, ares, isFz, afroz, afrozB, lookupA, lookupH, tops, if_true, if_false, reduceCtorEq, forall_const, ite_true, ite_false, implies_true, walkS, tabS, Try.results17, h8, h63, hcs, hm]
  refine ex_loop (fun p : {p : Nat × Nat × (Nat → Nat) // p.1 ≤ n} => mk [(0, .i n), (1, .clo f cs), (5, .own 9 1 0 n), (11, .i n), (12, .i p.1.1)] ((9, ⟨1, 1, famC 9 p.1.2.2 (itR q n p.1.1) ++ List.replicate (n - p.1.1) .nl⟩) :: famH 9 p.1.2.2 (itR q n p.1.1)) (p.1.2.1 + 2) 36) (fun p => n - p.1.1) ⟨(0, 0, fun _ => 0), by simp⟩ ?_ ?_
  · refine weak_mk rfl (by first | exact Nat.le_refl _ | (simp only [mk_gen]; omega)) ?_ ?_ <;> simp +decide only [w_lookup_nil, w_lookup_cons, ch_ch, ch_lit, lit_ch, wkT, wkH, wkB, WVL, WV_refl', Int.natCast_zero, Int.natCast_add, Int.natCast_one, Nat.sub_self, Nat.sub_zero, List.replicate_zero, List.take_zero, List.nil_append, List.append_nil, fillC_zero, Nat.reduceDiv, Nat.reduceAdd, upd_bk, bk_at, getB_zero, getB_succ, modB_zero, modB_succ, rows_lit, repB_zero, repB_succ, List.length_cons, List.length_nil, upd_upd_same, upd_apply, mk_tmp, mk_heap, mk_gen, lookupA, lookupH, List.getD_cons_zero, List.getD_cons_succ, init_two, tops, Bool.true_and, and_self, and_true, true_and, true_or, if_true, if_false, ite_true, ite_false, reduceCtorEq, reduceIte, itR, famC_nil, famH_nil, List.flatten_cons]
  · rintro ⟨⟨i, G, gs⟩, hi⟩
    have hi' : i ≤ n := hi
    have hRl := itR_length q n i
    generalize hR : itR q n i = R at hRl
    subst hRl
    by_cases ilt : R.length < n
    · have hw : IntKind.i64.wrap ((R.length : Int) + 1) = ((R.length + 1 : Nat) : Int) := wrap64 (by omega) (by omega)
      have hrep : List.replicate (n - R.length) AVal.nl = [AVal.nl] ++ List.replicate (n - (R.length + 1)) AVal.nl := by
        rw [show n - R.length = (n - (R.length + 1)) + 1 by omega, List.replicate_succ]
        rfl
      simp (config := { maxSteps := 1000000 }) +decide only [NoH, Old, OldL, nilQ, nilA, RechL, ReY, isNew, stepO, XPost, postN, XOk, updN, updU, isEff, avalue, aeff, ASt.eval, ASt.put, ASt.set, ASt.new, Nat.reduceDiv, Nat.reduceAdd, Int.reduceToNat, absV, absC, scalar, alen, acap, conc, flats, live, blkOf, aload, rd, part?, afieldAddr, afield, aindexAddr, cellsOf, afill, places, abuild, optI, asliceV, asliceS, szOk, srcCells, aappend, astore, amakeSlice, abuildSlice, snapL, mapO, treeL, AVal.tree, AVal.flatT, isFlat, ares, isFz, afroz, afrozB, lookupA, lookupH, tops, if_true, if_false, reduceCtorEq, forall_const, ite_true, ite_false, implies_true, walkS, tabS, Try.results17, hw, ilt]
      refine ex_loop (fun p : {p : Nat × Nat × Nat // p.1 ≤ n} => mkG (ghs [(31, ch 9 R.length)] [30]) [(0, .i n), (1, .clo f cs), (5, .own 9 1 0 n), (6, .i R.length), (11, .i n), (12, .i R.length), (15, .i n), (16, .i p.1.1)] ((9, ⟨1, 1, famC 9 (upd gs R.length p.1.2.1) (R ++ [plK (q R.length) p.1.1]) ++ List.replicate (n - (R.length + 1)) .nl⟩) :: famH 9 (upd gs R.length p.1.2.1) (R ++ [plK (q R.length) p.1.1])) (p.1.2.2 + 3) 36) (fun p => n - p.1.1) ⟨(0, G + 2, G), by simp⟩ ?_ ?_
      · refine weak_mk rfl (by first | exact Nat.le_refl _ | (simp only [mk_gen]; omega)) ?_ ?_ <;> simp +decide only [w_lookup_nil, w_lookup_cons, ch_ch, ch_lit, lit_ch, wkT, wkH, wkB, WVL, WV_refl', Int.natCast_zero, Int.natCast_add, Int.natCast_one, Nat.sub_self, Nat.sub_zero, List.replicate_zero, List.take_zero, List.nil_append, List.append_nil, fillC_zero, Nat.reduceDiv, Nat.reduceAdd, upd_bk, bk_at, getB_zero, getB_succ, modB_zero, modB_succ, rows_lit, repB_zero, repB_succ, List.length_cons, List.length_nil, upd_upd_same, upd_apply, mk_tmp, mk_heap, mk_gen, lookupA, lookupH, List.getD_cons_zero, List.getD_cons_succ, init_two, tops, Bool.true_and, and_self, and_true, true_and, true_or, if_true, if_false, ite_true, ite_false, reduceCtorEq, reduceIte, plK]
        refine ⟨.inr ?_, fam_last (fun j hj => ?_) ?_⟩
        · rw [famC_last, hrep, ← List.append_assoc]
          refine WVL_app (WVL_app (WVL_refl _ _ _) ⟨WV_nl (blk := ⟨G + 2, 1, []⟩) ?_ ?_ rfl rfl, trivial⟩) (WVL_refl _ _ _)
          · simp (config := { maxSteps := 1000000 }) +decide only [NoH, Old, OldL, nilQ, nilA, RechL, ReY, isNew, stepO, XPost, postN, XOk, updN, updU, isEff, avalue, aeff, ASt.eval, ASt.put, ASt.set, ASt.new, Nat.reduceDiv, Nat.reduceAdd, Int.reduceToNat, absV, absC, scalar, alen, acap, conc, flats, live, blkOf, aload, rd, part?, afieldAddr, afield, aindexAddr, cellsOf, afill, places, abuild, optI, asliceV, asliceS, szOk, srcCells, aappend, astore, amakeSlice, abuildSlice, snapL, mapO, treeL, AVal.tree, AVal.flatT, isFlat, ares, isFz, afroz, afrozB, lookupA, lookupH, tops, if_true, if_false, reduceCtorEq, forall_const, ite_true, ite_false, implies_true, walkS, tabS, Try.results17, famH_past (f := AVal.i) (ν := 9) (gs := gs) (ls := R) (Nat.le_refl _)]
          · simp (config := { maxSteps := 1000000 }) +decide only [NoH, Old, OldL, nilQ, nilA, RechL, ReY, isNew, stepO, XPost, postN, XOk, updN, updU, isEff, avalue, aeff, ASt.eval, ASt.put, ASt.set, ASt.new, Nat.reduceDiv, Nat.reduceAdd, Int.reduceToNat, absV, absC, scalar, alen, acap, conc, flats, live, blkOf, aload, rd, part?, afieldAddr, afield, aindexAddr, cellsOf, afill, places, abuild, optI, asliceV, asliceS, szOk, srcCells, aappend, astore, amakeSlice, abuildSlice, snapL, mapO, treeL, AVal.tree, AVal.flatT, isFlat, ares, isFz, afroz, afrozB, lookupA, lookupH, tops, if_true, if_false, reduceCtorEq, forall_const, ite_true, ite_false, implies_true, walkS, tabS, Try.results17, at_last (ν := 9) (g := G + 2) (gs := gs) (R := R) (r := []), mapC_nil]
        · simp (config := { maxSteps := 1000000 }) +decide only [NoH, Old, OldL, nilQ, nilA, RechL, ReY, isNew, stepO, XPost, postN, XOk, updN, updU, isEff, avalue, aeff, ASt.eval, ASt.put, ASt.set, ASt.new, Nat.reduceDiv, Nat.reduceAdd, Int.reduceToNat, absV, absC, scalar, alen, acap, conc, flats, live, blkOf, aload, rd, part?, afieldAddr, afield, aindexAddr, cellsOf, afill, places, abuild, optI, asliceV, asliceS, szOk, srcCells, aappend, astore, amakeSlice, abuildSlice, snapL, mapO, treeL, AVal.tree, AVal.flatT, isFlat, ares, isFz, afroz, afrozB, lookupA, lookupH, tops, if_true, if_false, reduceCtorEq, forall_const, ite_true, ite_false, implies_true, walkS, tabS, Try.results17, famH_at hj]
        · have e : (lookupH (famH 9 gs R) (ch 9 R.length)) = none := famH_past (Nat.le_refl _)
          simp (config := { maxSteps := 1000000 }) +decide only [NoH, Old, OldL, nilQ, nilA, RechL, ReY, isNew, stepO, XPost, postN, XOk, updN, updU, isEff, avalue, aeff, ASt.eval, ASt.put, ASt.set, ASt.new, Nat.reduceDiv, Nat.reduceAdd, Int.reduceToNat, absV, absC, scalar, alen, acap, conc, flats, live, blkOf, aload, rd, part?, afieldAddr, afield, aindexAddr, cellsOf, afill, places, abuild, optI, asliceV, asliceS, szOk, srcCells, aappend, astore, amakeSlice, abuildSlice, snapL, mapO, treeL, AVal.tree, AVal.flatT, isFlat, ares, isFz, afroz, afrozB, lookupA, lookupH, tops, if_true, if_false, reduceCtorEq, forall_const, ite_true, ite_false, implies_true, walkS, tabS, Try.results17, e, wkB, mapC_nil, Nat.lt_add_one, Nat.le_refl]
      · rintro ⟨⟨k, g, G'⟩, hk⟩
        have hle := plK_le (q R.length) k
        by_cases klt : k < n
        · have hw' : IntKind.i64.wrap ((k : Int) + 1) = ((k + 1 : Nat) : Int) := wrap64 (by omega) (by omega)
          have h8 : ((plK (q R.length) k).length + 1) * 8 ≤ 140737488355328 := by omega
          have hm2 : n - (k + 1) < n - k := by omega
          simp (config := { maxSteps := 1000000 }) +decide only [NoH, Old, OldL, nilQ, nilA, RechL, ReY, isNew, stepO, XPost, postN, XOk, updN, updU, isEff, avalue, aeff, ASt.eval, ASt.put, ASt.set, ASt.new, Nat.reduceDiv, Nat.reduceAdd, Int.reduceToNat, absV, absC, scalar, alen, acap, conc, flats, live, blkOf, aload, rd, part?, afieldAddr, afield, aindexAddr, cellsOf, afill, places, abuild, optI, asliceV, asliceS, szOk, srcCells, aappend, astore, amakeSlice, abuildSlice, snapL, mapO, treeL, AVal.tree, AVal.flatT, isFlat, ares, isFz, afroz, afrozB, lookupA, lookupH, tops, if_true, if_false, reduceCtorEq, forall_const, ite_true, ite_false, implies_true, walkS, tabS, Try.results17, hw', klt, hcs, hs, List.cons_append]
          refine callK (hp R.length k ilt klt) (by first | exact .inl rfl | exact .inr rfl) ?_
          by_cases hq : q R.length k
          · have gl := get_last (ν := 9) (g := g) (gs := gs) (R := R) (r := plK (q R.length) k) (Z := List.replicate (n - (R.length + 1)) AVal.nl)
            have al := at_last (ν := 9) (g := g) (gs := gs) (R := R) (r := plK (q R.length) k)
            have hcl : (famC 9 (upd gs R.length g) (R ++ [plK (q R.length) k]) ++ List.replicate (n - (R.length + 1)) AVal.nl).length = n := by
              rw [List.length_append, len_famC]
              simp
              omega
            have hcl2 : R.length < (famC 9 (upd gs R.length g) (R ++ [plK (q R.length) k]) ++ List.replicate (n - (R.length + 1)) AVal.nl).length := by omega
            simp (config := { maxSteps := 1000000 }) +decide only [NoH, Old, OldL, nilQ, nilA, RechL, ReY, isNew, stepO, XPost, postN, XOk, updN, updU, isEff, avalue, aeff, ASt.eval, ASt.put, ASt.set, ASt.new, Nat.reduceDiv, Nat.reduceAdd, Int.reduceToNat, absV, absC, scalar, alen, acap, conc, flats, live, blkOf, aload, rd, part?, afieldAddr, afield, aindexAddr, cellsOf, afill, places, abuild, optI, asliceV, asliceS, szOk, srcCells, aappend, astore, amakeSlice, abuildSlice, snapL, mapO, treeL, AVal.tree, AVal.flatT, isFlat, ares, isFz, afroz, afrozB, lookupA, lookupH, tops, if_true, if_false, reduceCtorEq, forall_const, ite_true, ite_false, implies_true, walkS, tabS, Try.results17, hw', klt, ilt, h8, eq_true hq, gl, al, hcl2, hcl, List.replicate_succ, List.flatten_cons, List.flatten_nil, mapC_snoc]
            refine ⟨⟨(k + 1, G' + 3, G' + 1), klt⟩, ?_, hm2⟩
            have el := lay_last (ν := 9) (g := g) (g2 := G' + 3) (gs := gs) (R := R) (r := plK (q R.length) k) (r2 := plK (q R.length) k ++ [(k : Int)]) (Z := List.replicate (n - (R.length + 1)) AVal.nl)
            simp only [List.length_append, List.length_cons, List.length_nil, Nat.zero_add] at el
            refine weak_mk rfl (by first | exact Nat.le_refl _ | (simp only [mk_gen]; omega)) ?_ ?_ <;> simp +decide only [w_lookup_nil, w_lookup_cons, ch_ch, ch_lit, lit_ch, wkT, wkH, wkB, WVL, WV_refl', Int.natCast_zero, Int.natCast_add, Int.natCast_one, Nat.sub_self, Nat.sub_zero, List.replicate_zero, List.take_zero, List.nil_append, List.append_nil, fillC_zero, Nat.reduceDiv, Nat.reduceAdd, upd_bk, bk_at, getB_zero, getB_succ, modB_zero, modB_succ, rows_lit, repB_zero, repB_succ, List.length_cons, List.length_nil, upd_upd_same, upd_apply, mk_tmp, mk_heap, mk_gen, lookupA, lookupH, List.getD_cons_zero, List.getD_cons_succ, init_two, tops, Bool.true_and, and_self, and_true, true_and, true_or, if_true, if_false, ite_true, ite_false, reduceCtorEq, reduceIte, plK_yes hq, el]
            refine fam_last (fun j hj => ?_) ?_
            · have hne : ¬ j = R.length := by omega
              simp (config := { maxSteps := 1000000 }) +decide only [NoH, Old, OldL, nilQ, nilA, RechL, ReY, isNew, stepO, XPost, postN, XOk, updN, updU, isEff, avalue, aeff, ASt.eval, ASt.put, ASt.set, ASt.new, Nat.reduceDiv, Nat.reduceAdd, Int.reduceToNat, absV, absC, scalar, alen, acap, conc, flats, live, blkOf, aload, rd, part?, afieldAddr, afield, aindexAddr, cellsOf, afill, places, abuild, optI, asliceV, asliceS, szOk, srcCells, aappend, astore, amakeSlice, abuildSlice, snapL, mapO, treeL, AVal.tree, AVal.flatT, isFlat, ares, isFz, afroz, afrozB, lookupA, lookupH, tops, if_true, if_false, reduceCtorEq, forall_const, ite_true, ite_false, implies_true, walkS, tabS, Try.results17, at_old (ν := 9) (g := g) (gs := gs) (r := plK (q R.length) k) hj, hne]
            · simp (config := { maxSteps := 1000000 }) +decide only [NoH, Old, OldL, nilQ, nilA, RechL, ReY, isNew, stepO, XPost, postN, XOk, updN, updU, isEff, avalue, aeff, ASt.eval, ASt.put, ASt.set, ASt.new, Nat.reduceDiv, Nat.reduceAdd, Int.reduceToNat, absV, absC, scalar, alen, acap, conc, flats, live, blkOf, aload, rd, part?, afieldAddr, afield, aindexAddr, cellsOf, afill, places, abuild, optI, asliceV, asliceS, szOk, srcCells, aappend, astore, amakeSlice, abuildSlice, snapL, mapO, treeL, AVal.tree, AVal.flatT, isFlat, ares, isFz, afroz, afrozB, lookupA, lookupH, tops, if_true, if_false, reduceCtorEq, forall_const, ite_true, ite_false, implies_true, walkS, tabS, Try.results17, wkB]
          · simp (config := { maxSteps := 1000000 }) +decide only [NoH, Old, OldL, nilQ, nilA, RechL, ReY, isNew, stepO, XPost, postN, XOk, updN, updU, isEff, avalue, aeff, ASt.eval, ASt.put, ASt.set, ASt.new, Nat.reduceDiv, Nat.reduceAdd, Int.reduceToNat, absV, absC, scalar, alen, acap, conc, flats, live, blkOf, aload, rd, part?, afieldAddr, afield, aindexAddr, cellsOf, afill, places, abuild, optI, asliceV, asliceS, szOk, srcCells, aappend, astore, amakeSlice, abuildSlice, snapL, mapO, treeL, AVal.tree, AVal.flatT, isFlat, ares, isFz, afroz, afrozB, lookupA, lookupH, tops, if_true, if_false, reduceCtorEq, forall_const, ite_true, ite_false, implies_true, walkS, tabS, Try.results17, hw', eq_false hq]
            refine ⟨⟨(k + 1, g, G'), klt⟩, ?_, hm2⟩
            refine weak_mk rfl (by first | exact Nat.le_refl _ | (simp only [mk_gen]; omega)) ?_ ?_ <;> simp +decide only [w_lookup_nil, w_lookup_cons, ch_ch, ch_lit, lit_ch, wkT, wkH, wkB, WVL, WV_refl', Int.natCast_zero, Int.natCast_add, Int.natCast_one, Nat.sub_self, Nat.sub_zero, List.replicate_zero, List.take_zero, List.nil_append, List.append_nil, fillC_zero, Nat.reduceDiv, Nat.reduceAdd, upd_bk, bk_at, getB_zero, getB_succ, modB_zero, modB_succ, rows_lit, repB_zero, repB_succ, List.length_cons, List.length_nil, upd_upd_same, upd_apply, mk_tmp, mk_heap, mk_gen, lookupA, lookupH, List.getD_cons_zero, List.getD_cons_succ, init_two, tops, Bool.true_and, and_self, and_true, true_and, true_or, if_true, if_false, ite_true, ite_false, reduceCtorEq, reduceIte, plK_no hq]
            refine fam_all fun j hj => ?_
            simp (config := { maxSteps := 1000000 }) +decide only [NoH, Old, OldL, nilQ, nilA, RechL, ReY, isNew, stepO, XPost, postN, XOk, updN, updU, isEff, avalue, aeff, ASt.eval, ASt.put, ASt.set, ASt.new, Nat.reduceDiv, Nat.reduceAdd, Int.reduceToNat, absV, absC, scalar, alen, acap, conc, flats, live, blkOf, aload, rd, part?, afieldAddr, afield, aindexAddr, cellsOf, afill, places, abuild, optI, asliceV, asliceS, szOk, srcCells, aappend, astore, amakeSlice, abuildSlice, snapL, mapO, treeL, AVal.tree, AVal.flatT, isFlat, ares, isFz, afroz, afrozB, lookupA, lookupH, tops, if_true, if_false, reduceCtorEq, forall_const, ite_true, ite_false, implies_true, walkS, tabS, Try.results17, famH_at hj]
        · have e : k = n := by omega
          subst e
          simp (config := { maxSteps := 1000000 }) +decide only [NoH, Old, OldL, nilQ, nilA, RechL, ReY, isNew, stepO, XPost, postN, XOk, updN, updU, isEff, avalue, aeff, ASt.eval, ASt.put, ASt.set, ASt.new, Nat.reduceDiv, Nat.reduceAdd, Int.reduceToNat, absV, absC, scalar, alen, acap, conc, flats, live, blkOf, aload, rd, part?, afieldAddr, afield, aindexAddr, cellsOf, afill, places, abuild, optI, asliceV, asliceS, szOk, srcCells, aappend, astore, amakeSlice, abuildSlice, snapL, mapO, treeL, AVal.tree, AVal.flatT, isFlat, ares, isFz, afroz, afrozB, lookupA, lookupH, tops, if_true, if_false, reduceCtorEq, forall_const, ite_true, ite_false, implies_true, walkS, tabS, Try.results17, hw, klt]
          refine ⟨⟨(R.length + 1, G' + 1, upd gs R.length g), ilt⟩, ?_, by show _ - (R.length + 1) < _ - R.length; omega⟩
          have ei : itR q k (R.length + 1) = R ++ [plK (q R.length) k] := by rw [itR, hR]
          refine weak_mk rfl (by first | exact Nat.le_refl _ | (simp only [mk_gen]; omega)) ?_ ?_ <;> simp +decide only [w_lookup_nil, w_lookup_cons, ch_ch, ch_lit, lit_ch, wkT, wkH, wkB, WVL, WV_refl', Int.natCast_zero, Int.natCast_add, Int.natCast_one, Nat.sub_self, Nat.sub_zero, List.replicate_zero, List.take_zero, List.nil_append, List.append_nil, fillC_zero, Nat.reduceDiv, Nat.reduceAdd, upd_bk, bk_at, getB_zero, getB_succ, modB_zero, modB_succ, rows_lit, repB_zero, repB_succ, List.length_cons, List.length_nil, upd_upd_same, upd_apply, mk_tmp, mk_heap, mk_gen, lookupA, lookupH, List.getD_cons_zero, List.getD_cons_succ, init_two, tops, Bool.true_and, and_self, and_true, true_and, true_or, if_true, if_false, ite_true, ite_false, reduceCtorEq, reduceIte, ei]
          refine fam_all fun j hj => ?_
          simp (config := { maxSteps := 1000000 }) +decide only [NoH, Old, OldL, nilQ, nilA, RechL, ReY, isNew, stepO, XPost, postN, XOk, updN, updU, isEff, avalue, aeff, ASt.eval, ASt.put, ASt.set, ASt.new, Nat.reduceDiv, Nat.reduceAdd, Int.reduceToNat, absV, absC, scalar, alen, acap, conc, flats, live, blkOf, aload, rd, part?, afieldAddr, afield, aindexAddr, cellsOf, afill, places, abuild, optI, asliceV, asliceS, szOk, srcCells, aappend, astore, amakeSlice, abuildSlice, snapL, mapO, treeL, AVal.tree, AVal.flatT, isFlat, ares, isFz, afroz, afrozB, lookupA, lookupH, tops, if_true, if_false, reduceCtorEq, forall_const, ite_true, ite_false, implies_true, walkS, tabS, Try.results17, famH_at hj]
    · have e : R.length = n := by omega
      subst e
      have hR2 : (itR q R.length R.length) = R := hR
      simp (config := { maxSteps := 1000000 }) +decide only [NoH, Old, OldL, nilQ, nilA, RechL, ReY, isNew, stepO, XPost, postN, XOk, updN, updU, isEff, avalue, aeff, ASt.eval, ASt.put, ASt.set, ASt.new, Nat.reduceDiv, Nat.reduceAdd, Int.reduceToNat, absV, absC, scalar, alen, acap, conc, flats, live, blkOf, aload, rd, part?, afieldAddr, afield, aindexAddr, cellsOf, afill, places, abuild, optI, asliceV, asliceS, szOk, srcCells, aappend, astore, amakeSlice, abuildSlice, snapL, mapO, treeL, AVal.tree, AVal.flatT, isFlat, ares, isFz, afroz, afrozB, lookupA, lookupH, tops, if_true, if_false, reduceCtorEq, forall_const, ite_true, ite_false, implies_true, walkS, tabS, Try.results17, ilt, hR2, hm, famS, famS2, famS3, len_mapC]
end Go.Proofs.Ytgfjbpincemcaaa
