/-
  OWN WORK: problems of assignment that the laws draw.
-/
import Derived.Test.YtkmhoebopfgpdaaPrB
import Derived.Test.YtkmhoebopfgpdaaFamB
import Derived.Test.YtkmhoebopfgpdaaPrM
namespace Go.Proofs.Ytkmhoebopfgpdaa
open Go Go.Own Go.Proofs
set_option maxHeartbeats 4000000
set_option maxRecDepth 20000
set_option linter.unusedSimpArgs false
structure PrD (D A : List (List Int)) : Prop where
  pos : 1 ≤ D.length
  few : D.length ≤ 24
  dom : ∀ d ∈ D, DomOk d
  len : A.length = D.length
  row : ∀ r ∈ A, r.length = D.length ∧ ∀ x ∈ r, 0 ≤ x ∧ x ≤ 100
  diag : ∀ i : Nat, i < D.length → (A.getD i []).getD i 0 = 0
  sym : ∀ i k : Nat, i < D.length → k < D.length → (A.getD i []).getD k 0 = (A.getD k []).getD i 0
theorem fam_allf {α : Type} {f : α → AVal} {s s' : ASt} {ν G : Nat} {gs : Nat → Nat} {ls : List (List α)} (h : ∀ j (hj : j < ls.length), s.heap (ch ν j) = some ⟨gs j, 1, mapC f ls[j]⟩) : wkH s s' G (famHf f ν gs ls) := by
  rw [wkH_fam]
  intro j hj
  rw [h j hj]
  exact ⟨rfl, rfl, .inl rfl⟩
def TabOk (q : Nat → Nat → Int) : Prop := ∀ a b, (0 ≤ q a b ∧ q a b ≤ 3) ∧ q a b = q b a ∧ q a a = 0
theorem tabOk_put {q : Nat → Nat → Int} {i j : Nat} {v : Int} (h : TabOk q) (hij : i ≠ j) (h0 : 0 ≤ v) (h3 : v ≤ 3) : TabOk (put2 (put2 q i j v) j i v) := by
  intro a b
  obtain ⟨h1, h2, h4⟩ := h a b
  unfold put2
  refine ⟨?_, ?_, ?_⟩
  · split
    · exact ⟨h0, h3⟩
    · split
      · exact ⟨h0, h3⟩
      · exact h1
  · by_cases c1 : a = j ∧ b = i
    · rw [if_pos c1]
      split
      · rfl
      · rw [if_pos ⟨c1.2, c1.1⟩]
    · rw [if_neg c1]
      by_cases c2 : a = i ∧ b = j
      · rw [if_pos c2, if_pos ⟨c2.2, c2.1⟩]
      · rw [if_neg c2, if_neg (fun h => c2 ⟨h.2, h.1⟩), if_neg (fun h => c1 ⟨h.2, h.1⟩)]
        exact h2
  · rw [if_neg (fun h => hij (h.2.symm.trans h.1)), if_neg (fun h => hij (h.1.symm.trans h.2))]
    exact h4
theorem matI_getD {q : Nat → Nat → Int} {n a b : Nat} (ha : a < n) (hb : b < n) : ((matI q n).getD a []).getD b 0 = q a b := by
  rw [List.getD_eq_getElem?_getD, List.getD_eq_getElem?_getD, List.getElem?_eq_getElem (show a < (matI q n).length by rw [matI_len]; exact ha), Option.getD_some, matI_get, List.getElem?_eq_getElem (show b < (rowI (q a) n).length by rw [rowI_len]; exact hb), Option.getD_some, rowI_get]
theorem prD_of {D : List (List Int)} {q : Nat → Nat → Int} {n : Nat} (h : D.length = n) (h1 : 1 ≤ n) (h6 : n ≤ 6) (hd : ∀ d ∈ D, DomOk d) (hq : TabOk q) : PrD D (matI q n) := by
  subst h
  refine ⟨h1, by omega, hd, matI_len _ _, fun r hr => ?_, fun i hi => ?_, fun i k hi hk => ?_⟩
  · obtain ⟨a, _, rfl⟩ := List.mem_map.1 hr
    refine ⟨rowI_len _ _, fun x hx => ?_⟩
    obtain ⟨b, _, rfl⟩ := List.mem_map.1 hx
    have := (hq a b).1
    omega
  · rw [matI_getD hi hi]; exact (hq i i).2.2
  · rw [matI_getD hi hk, matI_getD hk hi]; exact (hq i k).2.1
abbrev proV (D A : List (List Int)) : AVal := .agg [intss D, intss A]
theorem deny_l17Draw {bs : List Int} (hb : Byt bs) (s : SrcS) (hs : s.1 ≤ 1000) : DenY Try.prog 44 [srcX bs s] (fun i : SrcS × List (List Int) × List (List Int) => PrD i.2.1 i.2.2 ∧ i.2.1.length ≤ 6) (fun i => [srcX bs i.1]) (fun i => .v (proV i.2.1 i.2.2)) := by
  refine denY_of_awpG (ghs [(28, ch 30 0)] [22, 29]) Try.func44 rfl (by kernel_rfl) (Nat.le_of_ble_eq_true rfl) (by simp +decide only [w_embA_nil, w_embA_cons, w_emb_v, w_emb_ol, w_emb_op, w_emb_agg, w_emb_tup, w_embL_nil, w_embL_cons, embL_i, List.map_cons, List.map_nil, List.nil_append, List.append_nil, List.cons_append, List.nodup_cons, List.nodup_nil, List.mem_cons, List.mem_nil_iff, List.not_mem_nil, ch_ch, ch_lit, lit_ch, Nat.reduceAdd]) mixed (by kernel_rfl) fun hl => ?_
  simp only [xlensL, xlens, lensL, lens, lensL_i, lensL_mapC, xlensL_i, maxI, and_true, true_and] at hl
  rw [Try.ntmps44]
  refine ex_start ?_
  simp (config := { maxSteps := 1000000 }) +decide only [NoH, Old, OldL, nilQ, nilA, asgn, nz, RechL, ReY, isNew, stepO, XPost, postN, XOk, updN, updU, isEff, avalue, aeff, ASt.eval, ASt.put, ASt.set, ASt.new, Nat.reduceDiv, Nat.reduceAdd, Int.reduceToNat, absV, absC, scalar, alen, acap, conc, flats, live, blkOf, aload, rd, part?, afieldAddr, afield, aindexAddr, cellsOf, afill, places, abuild, optI, asliceV, asliceS, szOk, srcCells, aappend, acopy, aclear, astore, amakeSlice, abuildSlice, snapL, mapO, treeL, AVal.tree, AVal.flatT, isFlat, ares, isFz, afroz, afrozB, lookupA, lookupH, tops, if_true, if_false, reduceCtorEq, forall_const, ite_true, ite_false, implies_true, walkS, tabS, Try.results44]
  refine callY (deny_pick hb 6 s (by omega)) (by simp (config := { maxSteps := 1000000 }) +decide only [NoH, Old, OldL, nilQ, nilA, asgn, nz, RechL, ReY, isNew, stepO, XPost, postN, XOk, updN, updU, isEff, avalue, aeff, ASt.eval, ASt.put, ASt.set, ASt.new, Nat.reduceDiv, Nat.reduceAdd, Int.reduceToNat, absV, absC, scalar, alen, acap, conc, flats, live, blkOf, aload, rd, part?, afieldAddr, afield, aindexAddr, cellsOf, afill, places, abuild, optI, asliceV, asliceS, szOk, srcCells, aappend, acopy, aclear, astore, amakeSlice, abuildSlice, snapL, mapO, treeL, AVal.tree, AVal.flatT, isFlat, ares, isFz, afroz, afrozB, lookupA, lookupH, tops, if_true, if_false, reduceCtorEq, forall_const, ite_true, ite_false, implies_true, walkS, tabS, Try.results44]) (fun i hi => by simp (config := { maxSteps := 1000000 }) +decide only [NoH, Old, OldL, nilQ, nilA, asgn, nz, RechL, ReY, isNew, stepO, XPost, postN, XOk, updN, updU, isEff, avalue, aeff, ASt.eval, ASt.put, ASt.set, ASt.new, Nat.reduceDiv, Nat.reduceAdd, Int.reduceToNat, absV, absC, scalar, alen, acap, conc, flats, live, blkOf, aload, rd, part?, afieldAddr, afield, aindexAddr, cellsOf, afill, places, abuild, optI, asliceV, asliceS, szOk, srcCells, aappend, acopy, aclear, astore, amakeSlice, abuildSlice, snapL, mapO, treeL, AVal.tree, AVal.flatT, isFlat, ares, isFz, afroz, afrozB, lookupA, lookupH, tops, if_true, if_false, reduceCtorEq, forall_const, ite_true, ite_false, implies_true, walkS, tabS, Try.results44]) ?_
  rintro ⟨s1, m⟩ ⟨e1, e2, e3⟩
  have e1' : s1.1 ≤ s.1 + 2 := e1
  have e2' : 0 ≤ m := e2
  have e3' : m < 6 := e3 (by omega)
  obtain ⟨n, hn, hn1, hn2⟩ : ∃ n : Nat, 1 + m = n ∧ 1 ≤ n ∧ n ≤ 6 := ⟨(1 + m).toNat, by omega, by omega, by omega⟩
  have w1 : IntKind.i64.wrap (1 + m) = (n : Int) := (wrap64 (by omega) (by omega)).trans hn
  simp (config := { maxSteps := 1000000 }) +decide only [NoH, Old, OldL, nilQ, nilA, asgn, nz, RechL, ReY, isNew, stepO, XPost, postN, XOk, updN, updU, isEff, avalue, aeff, ASt.eval, ASt.put, ASt.set, ASt.new, Nat.reduceDiv, Nat.reduceAdd, Int.reduceToNat, absV, absC, scalar, alen, acap, conc, flats, live, blkOf, aload, rd, part?, afieldAddr, afield, aindexAddr, cellsOf, afill, places, abuild, optI, asliceV, asliceS, szOk, srcCells, aappend, acopy, aclear, astore, amakeSlice, abuildSlice, snapL, mapO, treeL, AVal.tree, AVal.flatT, isFlat, ares, isFz, afroz, afrozB, lookupA, lookupH, tops, if_true, if_false, reduceCtorEq, forall_const, ite_true, ite_false, implies_true, walkS, tabS, Try.results44, w1]
  refine ex_loop (fun p : {p : Nat × SrcS × List (List Int) × (Nat × Nat × Nat) × (Nat → Nat) // p.1 ≤ n ∧ p.2.1.1 ≤ s.1 + 2 + 20 * p.1 ∧ p.2.2.1.length = p.1 ∧ ∀ d ∈ p.2.2.1, DomOk d} => mkG (ghs [(28, ch 30 p.1.1)] [22, 29]) [(0, .ptr 0 0 0), (2, .ptr 2 1 0), (3, .i n), (4, .ptr 4 3 0), (5, .i p.1.1)] ((0, ⟨0, 3, [bytesV bs, .i p.1.2.1.1, .u64 p.1.2.1.2]⟩) :: (2, ⟨1, 2, [.nl, .nl]⟩) :: (4, ⟨3, 2, [.own 23 p.1.2.2.2.1.1 0 p.1.1, .own 30 p.1.2.2.2.1.2.1 0 p.1.1]⟩) :: (23, ⟨p.1.2.2.2.1.1, 1, mapC ints p.1.2.2.1⟩) :: (30, ⟨p.1.2.2.2.1.2.1, 1, famC 30 p.1.2.2.2.2 (List.replicate p.1.1 (List.replicate n (0 : Int)))⟩) :: famHf AVal.i 30 p.1.2.2.2.2 (List.replicate p.1.1 (List.replicate n (0 : Int)))) p.1.2.2.2.1.2.2 63) (fun p => n - p.1.1) ⟨(0, s1, [], (4, 5, 6), fun _ => 0), Nat.zero_le _, by show s1.1 ≤ _; omega, rfl, by simp⟩ ?_ ?_
  · refine weak_mk rfl (by first | exact Nat.le_refl _ | (simp only [mk_gen]; omega)) ?_ ?_ <;> simp +decide only [w_lookup_nil, w_lookup_cons, ch_ch, ch_lit, lit_ch, wkT, wkH, wkB, WVL, WV_refl', Int.natCast_zero, Int.natCast_add, Int.natCast_one, Nat.sub_self, Nat.sub_zero, List.replicate_zero, List.take_zero, List.nil_append, List.append_nil, fillC_zero, Nat.reduceDiv, Nat.reduceAdd, upd_bk, bk_at, getB_zero, getB_succ, modB_zero, modB_succ, rows_lit, repB_zero, repB_succ, List.length_cons, List.length_nil, upd_upd_same, upd_apply, mk_tmp, mk_heap, mk_gen, lookupA, lookupH, List.getD_cons_zero, List.getD_cons_succ, init_two, tops, Bool.true_and, and_self, and_true, true_and, true_or, if_true, if_false, ite_true, ite_false, reduceCtorEq, reduceIte, famC_nil, famH_nil, List.length_nil, List.flatten_nil, mapC_nil]
    exact .inr ⟨WV_nl (blk := ⟨4, 1, []⟩) rfl rfl rfl rfl, WV_nl (blk := ⟨5, 1, []⟩) rfl rfl rfl rfl⟩
  rintro ⟨⟨k, s2, D, ⟨gD, gA, G⟩, gs⟩, k1, k2, k3, k4⟩
  have k1' : k ≤ n := k1
  have k2' : s2.1 ≤ s.1 + 2 + 20 * k := k2
  have k3' : D.length = k := k3
  have k4' : ∀ d ∈ D, DomOk d := k4
  by_cases hlt : k < n
  · have hltI : (k : Int) < (n : Int) := by omega
    obtain ⟨d1, d2⟩ := dd_ok hb s2
    have w2 : IntKind.i64.wrap ((k : Int) + 1) = ((k + 1 : Nat) : Int) := wrap64 (by omega) (by omega)
    have h9 : (k + 1) * 24 ≤ 140737488355328 := by omega
    have h8 : (n : Int) * ((8 : Nat) : Int) ≤ 281474976710656 := by omega
    have h63 : (n : Int) ≤ 9223372036854775807 := by omega
    have tk : D.take k = D := List.take_of_length_le (by omega)
    simp (config := { maxSteps := 1000000 }) +decide only [NoH, Old, OldL, nilQ, nilA, asgn, nz, RechL, ReY, isNew, stepO, XPost, postN, XOk, updN, updU, isEff, avalue, aeff, ASt.eval, ASt.put, ASt.set, ASt.new, Nat.reduceDiv, Nat.reduceAdd, Int.reduceToNat, absV, absC, scalar, alen, acap, conc, flats, live, blkOf, aload, rd, part?, afieldAddr, afield, aindexAddr, cellsOf, afill, places, abuild, optI, asliceV, asliceS, szOk, srcCells, aappend, acopy, aclear, astore, amakeSlice, abuildSlice, snapL, mapO, treeL, AVal.tree, AVal.flatT, isFlat, ares, isFz, afroz, afrozB, lookupA, lookupH, tops, if_true, if_false, reduceCtorEq, forall_const, ite_true, ite_false, implies_true, walkS, tabS, Try.results44, eq_true hltI]
    refine callX (denx_l17DrawDomain hb s2 (by omega)) (by simp (config := { maxSteps := 1000000 }) +decide only [NoH, Old, OldL, nilQ, nilA, asgn, nz, RechL, ReY, isNew, stepO, XPost, postN, XOk, updN, updU, isEff, avalue, aeff, ASt.eval, ASt.put, ASt.set, ASt.new, Nat.reduceDiv, Nat.reduceAdd, Int.reduceToNat, absV, absC, scalar, alen, acap, conc, flats, live, blkOf, aload, rd, part?, afieldAddr, afield, aindexAddr, cellsOf, afill, places, abuild, optI, asliceV, asliceS, szOk, srcCells, aappend, acopy, aclear, astore, amakeSlice, abuildSlice, snapL, mapO, treeL, AVal.tree, AVal.flatT, isFlat, ares, isFz, afroz, afrozB, lookupA, lookupH, tops, if_true, if_false, reduceCtorEq, forall_const, ite_true, ite_false, implies_true, walkS, tabS, Try.results44]) ?_
    simp (config := { maxSteps := 1000000 }) +decide only [NoH, Old, OldL, nilQ, nilA, asgn, nz, RechL, ReY, isNew, stepO, XPost, postN, XOk, updN, updU, isEff, avalue, aeff, ASt.eval, ASt.put, ASt.set, ASt.new, Nat.reduceDiv, Nat.reduceAdd, Int.reduceToNat, absV, absC, scalar, alen, acap, conc, flats, live, blkOf, aload, rd, part?, afieldAddr, afield, aindexAddr, cellsOf, afill, places, abuild, optI, asliceV, asliceS, szOk, srcCells, aappend, acopy, aclear, astore, amakeSlice, abuildSlice, snapL, mapO, treeL, AVal.tree, AVal.flatT, isFlat, ares, isFz, afroz, afrozB, lookupA, lookupH, tops, if_true, if_false, reduceCtorEq, forall_const, ite_true, ite_false, implies_true, walkS, tabS, Try.results44, hlt, h9, h8, h63, w2, k3', tk, rep_i, List.replicate_succ, List.flatten_cons, List.flatten_nil, mapC_snoc, famS, famS2, famS3]
    refine ⟨famH_past (by simp), ⟨(k + 1, (dd bs s2).2, D ++ [(dd bs s2).1], (G + 1, G + 1 + 1 + 1, G + 1 + 1 + 1 + 1), upd gs k (G + 1 + 1)), hlt, by show (dd bs s2).2.1 ≤ s.1 + 2 + 20 * (k + 1); omega, by show (D ++ [_]).length = k + 1; simp [k3'], fun d hd => ?_⟩, ?_, by show n - (k + 1) < n - k; omega⟩
    · rcases List.mem_append.1 hd with h | h
      · exact k4' d h
      · simp only [List.mem_singleton] at h
        subst h
        exact d1
    have er : List.replicate (k + 1) (List.replicate n (0 : Int)) = List.replicate k (List.replicate n 0) ++ [List.replicate n 0] := List.replicate_succ' ..
    have ec := famC_snoc (ν := 30) (gs := gs) (ls := List.replicate k (List.replicate n (0 : Int))) (List.replicate n 0) (G + 1 + 1)
    simp only [List.length_replicate] at ec
    refine weak_mk rfl (by first | exact Nat.le_refl _ | (simp only [mk_gen]; omega)) ?_ ?_ <;> simp +decide only [w_lookup_nil, w_lookup_cons, ch_ch, ch_lit, lit_ch, wkT, wkH, wkB, WVL, WV_refl', Int.natCast_zero, Int.natCast_add, Int.natCast_one, Nat.sub_self, Nat.sub_zero, List.replicate_zero, List.take_zero, List.nil_append, List.append_nil, fillC_zero, Nat.reduceDiv, Nat.reduceAdd, upd_bk, bk_at, getB_zero, getB_succ, modB_zero, modB_succ, rows_lit, repB_zero, repB_succ, List.length_cons, List.length_nil, upd_upd_same, upd_apply, mk_tmp, mk_heap, mk_gen, lookupA, lookupH, List.getD_cons_zero, List.getD_cons_succ, init_two, tops, Bool.true_and, and_self, and_true, true_and, true_or, if_true, if_false, ite_true, ite_false, reduceCtorEq, reduceIte, er, ec]
    refine fam_allf fun j hj => ?_
    have hj2 : j < k + 1 := by simpa using hj
    have e7 : (List.replicate k (List.replicate n (0 : Int)) ++ [List.replicate n 0])[j] = List.replicate n 0 := by
      rw [List.getElem_append]
      split <;> simp
    by_cases ej : j = k
    · subst ej
      have e5 : upd gs j (G + 1 + 1) j = G + 1 + 1 := by simp [upd]
      simp (config := { maxSteps := 1000000 }) +decide only [NoH, Old, OldL, nilQ, nilA, asgn, nz, RechL, ReY, isNew, stepO, XPost, postN, XOk, updN, updU, isEff, avalue, aeff, ASt.eval, ASt.put, ASt.set, ASt.new, Nat.reduceDiv, Nat.reduceAdd, Int.reduceToNat, absV, absC, scalar, alen, acap, conc, flats, live, blkOf, aload, rd, part?, afieldAddr, afield, aindexAddr, cellsOf, afill, places, abuild, optI, asliceV, asliceS, szOk, srcCells, aappend, acopy, aclear, astore, amakeSlice, abuildSlice, snapL, mapO, treeL, AVal.tree, AVal.flatT, isFlat, ares, isFz, afroz, afrozB, lookupA, lookupH, tops, if_true, if_false, reduceCtorEq, forall_const, ite_true, ite_false, implies_true, walkS, tabS, Try.results44, e5, e7]
    · have hj3 : j < (List.replicate k (List.replicate n (0 : Int))).length := by simp; omega
      have e5 : upd gs k (G + 1 + 1) j = gs j := by simp [upd, ej]
      have e6 := famH_at (f := AVal.i) (ν := 30) (gs := gs) hj3
      simp (config := { maxSteps := 1000000 }) +decide only [NoH, Old, OldL, nilQ, nilA, asgn, nz, RechL, ReY, isNew, stepO, XPost, postN, XOk, updN, updU, isEff, avalue, aeff, ASt.eval, ASt.put, ASt.set, ASt.new, Nat.reduceDiv, Nat.reduceAdd, Int.reduceToNat, absV, absC, scalar, alen, acap, conc, flats, live, blkOf, aload, rd, part?, afieldAddr, afield, aindexAddr, cellsOf, afill, places, abuild, optI, asliceV, asliceS, szOk, srcCells, aappend, acopy, aclear, astore, amakeSlice, abuildSlice, snapL, mapO, treeL, AVal.tree, AVal.flatT, isFlat, ares, isFz, afroz, afrozB, lookupA, lookupH, tops, if_true, if_false, reduceCtorEq, forall_const, ite_true, ite_false, implies_true, walkS, tabS, Try.results44, e5, e7, ej, e6, List.getElem_replicate]
  have e : k = n := by omega
  subst e
  have hltI : ¬ (k : Int) < (k : Int) := by omega
  simp (config := { maxSteps := 1000000 }) +decide only [NoH, Old, OldL, nilQ, nilA, asgn, nz, RechL, ReY, isNew, stepO, XPost, postN, XOk, updN, updU, isEff, avalue, aeff, ASt.eval, ASt.put, ASt.set, ASt.new, Nat.reduceDiv, Nat.reduceAdd, Int.reduceToNat, absV, absC, scalar, alen, acap, conc, flats, live, blkOf, aload, rd, part?, afieldAddr, afield, aindexAddr, cellsOf, afill, places, abuild, optI, asliceV, asliceS, szOk, srcCells, aappend, acopy, aclear, astore, amakeSlice, abuildSlice, snapL, mapO, treeL, AVal.tree, AVal.flatT, isFlat, ares, isFz, afroz, afrozB, lookupA, lookupH, tops, if_true, if_false, reduceCtorEq, forall_const, ite_true, ite_false, implies_true, walkS, tabS, Try.results44, eq_false hltI, matI_zero]
  have z0 : TabOk (fun _ _ => 0) := fun _ _ => ⟨⟨Int.le_refl _, by show (0 : Int) ≤ 3; omega⟩, rfl, rfl⟩
  refine ex_loop (fun p : {p : Nat × SrcS × (Nat → Nat → Int) × Nat // p.1 ≤ k ∧ p.2.1.1 ≤ s.1 + 200 + 100 * p.1 ∧ TabOk p.2.2.1} => mkG (ghs [(28, ch 30 k)] [22, 29]) [(0, .ptr 0 0 0), (2, .ptr 2 1 0), (3, .i k), (4, .ptr 4 3 0), (6, .i p.1.1)] ((0, ⟨0, 3, [bytesV bs, .i p.1.2.1.1, .u64 p.1.2.1.2]⟩) :: (2, ⟨1, 2, [.nl, .nl]⟩) :: (4, ⟨3, 2, [.own 23 gD 0 k, .own 30 gA 0 k]⟩) :: (23, ⟨gD, 1, mapC ints D⟩) :: (30, ⟨gA, 1, famC 30 gs (matI p.1.2.2.1 k)⟩) :: famHf AVal.i 30 gs (matI p.1.2.2.1 k)) p.1.2.2.2 63) (fun p => k - p.1.1) ⟨(0, s2, fun _ _ => 0, G), Nat.zero_le _, by show s2.1 ≤ _; omega, z0⟩ ?_ ?_
  · refine weak_mk rfl (by first | exact Nat.le_refl _ | (simp only [mk_gen]; omega)) ?_ ?_ <;> simp +decide only [w_lookup_nil, w_lookup_cons, ch_ch, ch_lit, lit_ch, wkT, wkH, wkB, WVL, WV_refl', Int.natCast_zero, Int.natCast_add, Int.natCast_one, Nat.sub_self, Nat.sub_zero, List.replicate_zero, List.take_zero, List.nil_append, List.append_nil, fillC_zero, Nat.reduceDiv, Nat.reduceAdd, upd_bk, bk_at, getB_zero, getB_succ, modB_zero, modB_succ, rows_lit, repB_zero, repB_succ, List.length_cons, List.length_nil, upd_upd_same, upd_apply, mk_tmp, mk_heap, mk_gen, lookupA, lookupH, List.getD_cons_zero, List.getD_cons_succ, init_two, tops, Bool.true_and, and_self, and_true, true_and, true_or, if_true, if_false, ite_true, ite_false, reduceCtorEq, reduceIte]
    refine fam_allf fun j hj => ?_
    simp (config := { maxSteps := 1000000 }) +decide only [NoH, Old, OldL, nilQ, nilA, asgn, nz, RechL, ReY, isNew, stepO, XPost, postN, XOk, updN, updU, isEff, avalue, aeff, ASt.eval, ASt.put, ASt.set, ASt.new, Nat.reduceDiv, Nat.reduceAdd, Int.reduceToNat, absV, absC, scalar, alen, acap, conc, flats, live, blkOf, aload, rd, part?, afieldAddr, afield, aindexAddr, cellsOf, afill, places, abuild, optI, asliceV, asliceS, szOk, srcCells, aappend, acopy, aclear, astore, amakeSlice, abuildSlice, snapL, mapO, treeL, AVal.tree, AVal.flatT, isFlat, ares, isFz, afroz, afrozB, lookupA, lookupH, tops, if_true, if_false, reduceCtorEq, forall_const, ite_true, ite_false, implies_true, walkS, tabS, Try.results44, famH_at (f := AVal.i) (ν := 30) (gs := gs) hj]
  rintro ⟨⟨i, s3, q, G3⟩, i1, i2, i3⟩
  have i1' : i ≤ k := i1
  have i2' : s3.1 ≤ s.1 + 200 + 100 * i := i2
  have i3' : TabOk q := i3
  by_cases ilt : i < k
  · have iltI : (i : Int) < (k : Int) := by omega
    have wi : IntKind.i64.wrap ((i : Int) + 1) = ((i + 1 : Nat) : Int) := wrap64 (by omega) (by omega)
    simp (config := { maxSteps := 1000000 }) +decide only [NoH, Old, OldL, nilQ, nilA, asgn, nz, RechL, ReY, isNew, stepO, XPost, postN, XOk, updN, updU, isEff, avalue, aeff, ASt.eval, ASt.put, ASt.set, ASt.new, Nat.reduceDiv, Nat.reduceAdd, Int.reduceToNat, absV, absC, scalar, alen, acap, conc, flats, live, blkOf, aload, rd, part?, afieldAddr, afield, aindexAddr, cellsOf, afill, places, abuild, optI, asliceV, asliceS, szOk, srcCells, aappend, acopy, aclear, astore, amakeSlice, abuildSlice, snapL, mapO, treeL, AVal.tree, AVal.flatT, isFlat, ares, isFz, afroz, afrozB, lookupA, lookupH, tops, if_true, if_false, reduceCtorEq, forall_const, ite_true, ite_false, implies_true, walkS, tabS, Try.results44, eq_true iltI]
    refine ex_loop (fun p : {p : Nat × SrcS × (Nat → Nat → Int) × Nat // p.1 ≤ i ∧ p.2.1.1 ≤ s.1 + 200 + 100 * i + 4 * p.1 ∧ TabOk p.2.2.1} => mkG (ghs [(28, ch 30 k)] [22, 29]) [(0, .ptr 0 0 0), (2, .ptr 2 1 0), (3, .i k), (4, .ptr 4 3 0), (6, .i i), (7, .i p.1.1)] ((0, ⟨0, 3, [bytesV bs, .i p.1.2.1.1, .u64 p.1.2.1.2]⟩) :: (2, ⟨1, 2, [.nl, .nl]⟩) :: (4, ⟨3, 2, [.own 23 gD 0 k, .own 30 gA 0 k]⟩) :: (23, ⟨gD, 1, mapC ints D⟩) :: (30, ⟨gA, 1, famC 30 gs (matI p.1.2.2.1 k)⟩) :: famHf AVal.i 30 gs (matI p.1.2.2.1 k)) p.1.2.2.2 63) (fun p => i - p.1.1) ⟨(0, s3, q, G3), Nat.zero_le _, by show s3.1 ≤ _; omega, i3'⟩ ?_ ?_
    · refine weak_mk rfl (by first | exact Nat.le_refl _ | (simp only [mk_gen]; omega)) ?_ ?_ <;> simp +decide only [w_lookup_nil, w_lookup_cons, ch_ch, ch_lit, lit_ch, wkT, wkH, wkB, WVL, WV_refl', Int.natCast_zero, Int.natCast_add, Int.natCast_one, Nat.sub_self, Nat.sub_zero, List.replicate_zero, List.take_zero, List.nil_append, List.append_nil, fillC_zero, Nat.reduceDiv, Nat.reduceAdd, upd_bk, bk_at, getB_zero, getB_succ, modB_zero, modB_succ, rows_lit, repB_zero, repB_succ, List.length_cons, List.length_nil, upd_upd_same, upd_apply, mk_tmp, mk_heap, mk_gen, lookupA, lookupH, List.getD_cons_zero, List.getD_cons_succ, init_two, tops, Bool.true_and, and_self, and_true, true_and, true_or, if_true, if_false, ite_true, ite_false, reduceCtorEq, reduceIte]
      refine fam_allf fun j hj => ?_
      simp (config := { maxSteps := 1000000 }) +decide only [NoH, Old, OldL, nilQ, nilA, asgn, nz, RechL, ReY, isNew, stepO, XPost, postN, XOk, updN, updU, isEff, avalue, aeff, ASt.eval, ASt.put, ASt.set, ASt.new, Nat.reduceDiv, Nat.reduceAdd, Int.reduceToNat, absV, absC, scalar, alen, acap, conc, flats, live, blkOf, aload, rd, part?, afieldAddr, afield, aindexAddr, cellsOf, afill, places, abuild, optI, asliceV, asliceS, szOk, srcCells, aappend, acopy, aclear, astore, amakeSlice, abuildSlice, snapL, mapO, treeL, AVal.tree, AVal.flatT, isFlat, ares, isFz, afroz, afrozB, lookupA, lookupH, tops, if_true, if_false, reduceCtorEq, forall_const, ite_true, ite_false, implies_true, walkS, tabS, Try.results44, famH_at (f := AVal.i) (ν := 30) (gs := gs) hj]
    rintro ⟨⟨j, s4, q, G4⟩, j1, j2, j3⟩
    have j1' : j ≤ i := j1
    have j2' : s4.1 ≤ s.1 + 200 + 100 * i + 4 * j := j2
    have j3' : TabOk q := j3
    by_cases jlt : j < i
    case neg =>
      have ej : j = i := by omega
      subst ej
      have jltI : ¬ (j : Int) < (j : Int) := by omega
      simp (config := { maxSteps := 1000000 }) +decide only [NoH, Old, OldL, nilQ, nilA, asgn, nz, RechL, ReY, isNew, stepO, XPost, postN, XOk, updN, updU, isEff, avalue, aeff, ASt.eval, ASt.put, ASt.set, ASt.new, Nat.reduceDiv, Nat.reduceAdd, Int.reduceToNat, absV, absC, scalar, alen, acap, conc, flats, live, blkOf, aload, rd, part?, afieldAddr, afield, aindexAddr, cellsOf, afill, places, abuild, optI, asliceV, asliceS, szOk, srcCells, aappend, acopy, aclear, astore, amakeSlice, abuildSlice, snapL, mapO, treeL, AVal.tree, AVal.flatT, isFlat, ares, isFz, afroz, afrozB, lookupA, lookupH, tops, if_true, if_false, reduceCtorEq, forall_const, ite_true, ite_false, implies_true, walkS, tabS, Try.results44, eq_false jltI, wi]
      refine ⟨⟨(j + 1, s4, q, G4), ilt, by show s4.1 ≤ s.1 + 200 + 100 * (j + 1); omega, j3'⟩, ?_, by show k - (j + 1) < k - j; omega⟩
      refine weak_mk rfl (by first | exact Nat.le_refl _ | (simp only [mk_gen]; omega)) ?_ ?_ <;> simp +decide only [w_lookup_nil, w_lookup_cons, ch_ch, ch_lit, lit_ch, wkT, wkH, wkB, WVL, WV_refl', Int.natCast_zero, Int.natCast_add, Int.natCast_one, Nat.sub_self, Nat.sub_zero, List.replicate_zero, List.take_zero, List.nil_append, List.append_nil, fillC_zero, Nat.reduceDiv, Nat.reduceAdd, upd_bk, bk_at, getB_zero, getB_succ, modB_zero, modB_succ, rows_lit, repB_zero, repB_succ, List.length_cons, List.length_nil, upd_upd_same, upd_apply, mk_tmp, mk_heap, mk_gen, lookupA, lookupH, List.getD_cons_zero, List.getD_cons_succ, init_two, tops, Bool.true_and, and_self, and_true, true_and, true_or, if_true, if_false, ite_true, ite_false, reduceCtorEq, reduceIte]
      refine fam_allf fun a ha => ?_
      simp (config := { maxSteps := 1000000 }) +decide only [NoH, Old, OldL, nilQ, nilA, asgn, nz, RechL, ReY, isNew, stepO, XPost, postN, XOk, updN, updU, isEff, avalue, aeff, ASt.eval, ASt.put, ASt.set, ASt.new, Nat.reduceDiv, Nat.reduceAdd, Int.reduceToNat, absV, absC, scalar, alen, acap, conc, flats, live, blkOf, aload, rd, part?, afieldAddr, afield, aindexAddr, cellsOf, afill, places, abuild, optI, asliceV, asliceS, szOk, srcCells, aappend, acopy, aclear, astore, amakeSlice, abuildSlice, snapL, mapO, treeL, AVal.tree, AVal.flatT, isFlat, ares, isFz, afroz, afrozB, lookupA, lookupH, tops, if_true, if_false, reduceCtorEq, forall_const, ite_true, ite_false, implies_true, walkS, tabS, Try.results44, famH_at (f := AVal.i) (ν := 30) (gs := gs) ha]
    have jltI : (j : Int) < (i : Int) := by omega
    have wj : IntKind.i64.wrap ((j : Int) + 1) = ((j + 1 : Nat) : Int) := wrap64 (by omega) (by omega)
    simp (config := { maxSteps := 1000000 }) +decide only [NoH, Old, OldL, nilQ, nilA, asgn, nz, RechL, ReY, isNew, stepO, XPost, postN, XOk, updN, updU, isEff, avalue, aeff, ASt.eval, ASt.put, ASt.set, ASt.new, Nat.reduceDiv, Nat.reduceAdd, Int.reduceToNat, absV, absC, scalar, alen, acap, conc, flats, live, blkOf, aload, rd, part?, afieldAddr, afield, aindexAddr, cellsOf, afill, places, abuild, optI, asliceV, asliceS, szOk, srcCells, aappend, acopy, aclear, astore, amakeSlice, abuildSlice, snapL, mapO, treeL, AVal.tree, AVal.flatT, isFlat, ares, isFz, afroz, afrozB, lookupA, lookupH, tops, if_true, if_false, reduceCtorEq, forall_const, ite_true, ite_false, implies_true, walkS, tabS, Try.results44, eq_true jltI]
    refine callY (deny_one hb 2 s4 (by omega)) (by simp (config := { maxSteps := 1000000 }) +decide only [NoH, Old, OldL, nilQ, nilA, asgn, nz, RechL, ReY, isNew, stepO, XPost, postN, XOk, updN, updU, isEff, avalue, aeff, ASt.eval, ASt.put, ASt.set, ASt.new, Nat.reduceDiv, Nat.reduceAdd, Int.reduceToNat, absV, absC, scalar, alen, acap, conc, flats, live, blkOf, aload, rd, part?, afieldAddr, afield, aindexAddr, cellsOf, afill, places, abuild, optI, asliceV, asliceS, szOk, srcCells, aappend, acopy, aclear, astore, amakeSlice, abuildSlice, snapL, mapO, treeL, AVal.tree, AVal.flatT, isFlat, ares, isFz, afroz, afrozB, lookupA, lookupH, tops, if_true, if_false, reduceCtorEq, forall_const, ite_true, ite_false, implies_true, walkS, tabS, Try.results44]) (fun i hi => by simp (config := { maxSteps := 1000000 }) +decide only [NoH, Old, OldL, nilQ, nilA, asgn, nz, RechL, ReY, isNew, stepO, XPost, postN, XOk, updN, updU, isEff, avalue, aeff, ASt.eval, ASt.put, ASt.set, ASt.new, Nat.reduceDiv, Nat.reduceAdd, Int.reduceToNat, absV, absC, scalar, alen, acap, conc, flats, live, blkOf, aload, rd, part?, afieldAddr, afield, aindexAddr, cellsOf, afill, places, abuild, optI, asliceV, asliceS, szOk, srcCells, aappend, acopy, aclear, astore, amakeSlice, abuildSlice, snapL, mapO, treeL, AVal.tree, AVal.flatT, isFlat, ares, isFz, afroz, afrozB, lookupA, lookupH, tops, if_true, if_false, reduceCtorEq, forall_const, ite_true, ite_false, implies_true, walkS, tabS, Try.results44]) ?_
    rintro ⟨s5, yes⟩ p5
    have p5' : s5.1 ≤ s4.1 + 2 := p5
    cases yes
    case false =>
      simp (config := { maxSteps := 1000000 }) +decide only [NoH, Old, OldL, nilQ, nilA, asgn, nz, RechL, ReY, isNew, stepO, XPost, postN, XOk, updN, updU, isEff, avalue, aeff, ASt.eval, ASt.put, ASt.set, ASt.new, Nat.reduceDiv, Nat.reduceAdd, Int.reduceToNat, absV, absC, scalar, alen, acap, conc, flats, live, blkOf, aload, rd, part?, afieldAddr, afield, aindexAddr, cellsOf, afill, places, abuild, optI, asliceV, asliceS, szOk, srcCells, aappend, acopy, aclear, astore, amakeSlice, abuildSlice, snapL, mapO, treeL, AVal.tree, AVal.flatT, isFlat, ares, isFz, afroz, afrozB, lookupA, lookupH, tops, if_true, if_false, reduceCtorEq, forall_const, ite_true, ite_false, implies_true, walkS, tabS, Try.results44, wj]
      refine ⟨⟨(j + 1, s5, q, G4 + 1), jlt, by show s5.1 ≤ s.1 + 200 + 100 * i + 4 * (j + 1); omega, j3'⟩, ?_, by show i - (j + 1) < i - j; omega⟩
      refine weak_mk rfl (by first | exact Nat.le_refl _ | (simp only [mk_gen]; omega)) ?_ ?_ <;> simp +decide only [w_lookup_nil, w_lookup_cons, ch_ch, ch_lit, lit_ch, wkT, wkH, wkB, WVL, WV_refl', Int.natCast_zero, Int.natCast_add, Int.natCast_one, Nat.sub_self, Nat.sub_zero, List.replicate_zero, List.take_zero, List.nil_append, List.append_nil, fillC_zero, Nat.reduceDiv, Nat.reduceAdd, upd_bk, bk_at, getB_zero, getB_succ, modB_zero, modB_succ, rows_lit, repB_zero, repB_succ, List.length_cons, List.length_nil, upd_upd_same, upd_apply, mk_tmp, mk_heap, mk_gen, lookupA, lookupH, List.getD_cons_zero, List.getD_cons_succ, init_two, tops, Bool.true_and, and_self, and_true, true_and, true_or, if_true, if_false, ite_true, ite_false, reduceCtorEq, reduceIte]
      refine fam_allf fun a ha => ?_
      simp (config := { maxSteps := 1000000 }) +decide only [NoH, Old, OldL, nilQ, nilA, asgn, nz, RechL, ReY, isNew, stepO, XPost, postN, XOk, updN, updU, isEff, avalue, aeff, ASt.eval, ASt.put, ASt.set, ASt.new, Nat.reduceDiv, Nat.reduceAdd, Int.reduceToNat, absV, absC, scalar, alen, acap, conc, flats, live, blkOf, aload, rd, part?, afieldAddr, afield, aindexAddr, cellsOf, afill, places, abuild, optI, asliceV, asliceS, szOk, srcCells, aappend, acopy, aclear, astore, amakeSlice, abuildSlice, snapL, mapO, treeL, AVal.tree, AVal.flatT, isFlat, ares, isFz, afroz, afrozB, lookupA, lookupH, tops, if_true, if_false, reduceCtorEq, forall_const, ite_true, ite_false, implies_true, walkS, tabS, Try.results44, famH_at (f := AVal.i) (ν := 30) (gs := gs) ha]
    case true =>
      simp (config := { maxSteps := 1000000 }) +decide only [NoH, Old, OldL, nilQ, nilA, asgn, nz, RechL, ReY, isNew, stepO, XPost, postN, XOk, updN, updU, isEff, avalue, aeff, ASt.eval, ASt.put, ASt.set, ASt.new, Nat.reduceDiv, Nat.reduceAdd, Int.reduceToNat, absV, absC, scalar, alen, acap, conc, flats, live, blkOf, aload, rd, part?, afieldAddr, afield, aindexAddr, cellsOf, afill, places, abuild, optI, asliceV, asliceS, szOk, srcCells, aappend, acopy, aclear, astore, amakeSlice, abuildSlice, snapL, mapO, treeL, AVal.tree, AVal.flatT, isFlat, ares, isFz, afroz, afrozB, lookupA, lookupH, tops, if_true, if_false, reduceCtorEq, forall_const, ite_true, ite_false, implies_true, walkS, tabS, Try.results44]
      refine callY (deny_pick hb 4 s5 (by omega)) (by simp (config := { maxSteps := 1000000 }) +decide only [NoH, Old, OldL, nilQ, nilA, asgn, nz, RechL, ReY, isNew, stepO, XPost, postN, XOk, updN, updU, isEff, avalue, aeff, ASt.eval, ASt.put, ASt.set, ASt.new, Nat.reduceDiv, Nat.reduceAdd, Int.reduceToNat, absV, absC, scalar, alen, acap, conc, flats, live, blkOf, aload, rd, part?, afieldAddr, afield, aindexAddr, cellsOf, afill, places, abuild, optI, asliceV, asliceS, szOk, srcCells, aappend, acopy, aclear, astore, amakeSlice, abuildSlice, snapL, mapO, treeL, AVal.tree, AVal.flatT, isFlat, ares, isFz, afroz, afrozB, lookupA, lookupH, tops, if_true, if_false, reduceCtorEq, forall_const, ite_true, ite_false, implies_true, walkS, tabS, Try.results44]) (fun i hi => by simp (config := { maxSteps := 1000000 }) +decide only [NoH, Old, OldL, nilQ, nilA, asgn, nz, RechL, ReY, isNew, stepO, XPost, postN, XOk, updN, updU, isEff, avalue, aeff, ASt.eval, ASt.put, ASt.set, ASt.new, Nat.reduceDiv, Nat.reduceAdd, Int.reduceToNat, absV, absC, scalar, alen, acap, conc, flats, live, blkOf, aload, rd, part?, afieldAddr, afield, aindexAddr, cellsOf, afill, places, abuild, optI, asliceV, asliceS, szOk, srcCells, aappend, acopy, aclear, astore, amakeSlice, abuildSlice, snapL, mapO, treeL, AVal.tree, AVal.flatT, isFlat, ares, isFz, afroz, afrozB, lookupA, lookupH, tops, if_true, if_false, reduceCtorEq, forall_const, ite_true, ite_false, implies_true, walkS, tabS, Try.results44]) ?_
      rintro ⟨s6, v⟩ ⟨p6, p7, p8⟩
      have p6' : s6.1 ≤ s5.1 + 2 := p6
      have p7' : 0 ≤ v := p7
      have p8' : v < 4 := p8 (by omega)
      have jk : j < k := by omega
      have ne : ¬ i = j := by omega
      have c1 := matI_cell (ν := 30) (gs := gs) (q := q) ilt
      have c2 := matI_cell (ν := 30) (gs := gs) (q := q) jk
      have a1 := matI_at (ν := 30) (gs := gs) (q := q) ilt
      have a2 := matI_at (ν := 30) (gs := gs) (q := q) jk
      have l0 := matI_len q k
      simp (config := { maxSteps := 1000000 }) +decide only [NoH, Old, OldL, nilQ, nilA, asgn, nz, RechL, ReY, isNew, stepO, XPost, postN, XOk, updN, updU, isEff, avalue, aeff, ASt.eval, ASt.put, ASt.set, ASt.new, Nat.reduceDiv, Nat.reduceAdd, Int.reduceToNat, absV, absC, scalar, alen, acap, conc, flats, live, blkOf, aload, rd, part?, afieldAddr, afield, aindexAddr, cellsOf, afill, places, abuild, optI, asliceV, asliceS, szOk, srcCells, aappend, acopy, aclear, astore, amakeSlice, abuildSlice, snapL, mapO, treeL, AVal.tree, AVal.flatT, isFlat, ares, isFz, afroz, afrozB, lookupA, lookupH, tops, if_true, if_false, reduceCtorEq, forall_const, ite_true, ite_false, implies_true, walkS, tabS, Try.results44, wj, ilt, jlt, jk, ne, Ne.symm ne, c1, c2, a1, a2, l0, rowI_len, len_famC, famS, famS2, famS3]
      refine ⟨⟨(j + 1, s6, put2 (put2 q i j v) j i v, G4 + 1 + 1), jlt, by show s6.1 ≤ s.1 + 200 + 100 * i + 4 * (j + 1); omega, tabOk_put j3' (by omega) p7' (by omega)⟩, ?_, by show i - (j + 1) < i - j; omega⟩
      have ef := famC_matI (ν := 30) (gs := gs) (put2 (put2 q i j v) j i v) q k
      refine weak_mk rfl (by first | exact Nat.le_refl _ | (simp only [mk_gen]; omega)) ?_ ?_ <;> simp +decide only [w_lookup_nil, w_lookup_cons, ch_ch, ch_lit, lit_ch, wkT, wkH, wkB, WVL, WV_refl', Int.natCast_zero, Int.natCast_add, Int.natCast_one, Nat.sub_self, Nat.sub_zero, List.replicate_zero, List.take_zero, List.nil_append, List.append_nil, fillC_zero, Nat.reduceDiv, Nat.reduceAdd, upd_bk, bk_at, getB_zero, getB_succ, modB_zero, modB_succ, rows_lit, repB_zero, repB_succ, List.length_cons, List.length_nil, upd_upd_same, upd_apply, mk_tmp, mk_heap, mk_gen, lookupA, lookupH, List.getD_cons_zero, List.getD_cons_succ, init_two, tops, Bool.true_and, and_self, and_true, true_and, true_or, if_true, if_false, ite_true, ite_false, reduceCtorEq, reduceIte, ef]
      refine fam_allf fun a ha => ?_
      have ha2 : a < k := by rw [matI_len] at ha; exact ha
      have er : (matI (put2 (put2 q i j v) j i v) k)[a] = if a = j then (rowI (q j) k).set i v else if a = i then (rowI (q i) k).set j v else rowI (q a) k := by
        rw [matI_get]
        by_cases ej : a = j
        · subst ej
          rw [if_pos rfl, put2_row, put2_other _ _ _ (Ne.symm ne)]
        · rw [if_neg ej, put2_other _ _ _ ej]
          by_cases ei : a = i
          · subst ei
            rw [if_pos rfl, put2_row]
          · rw [if_neg ei, put2_other _ _ _ ei]
      have ea := matI_at (ν := 30) (gs := gs) (q := q) ha2
      rw [er]
      by_cases ej : a = j
      · subst ej
        simp (config := { maxSteps := 1000000 }) +decide only [NoH, Old, OldL, nilQ, nilA, asgn, nz, RechL, ReY, isNew, stepO, XPost, postN, XOk, updN, updU, isEff, avalue, aeff, ASt.eval, ASt.put, ASt.set, ASt.new, Nat.reduceDiv, Nat.reduceAdd, Int.reduceToNat, absV, absC, scalar, alen, acap, conc, flats, live, blkOf, aload, rd, part?, afieldAddr, afield, aindexAddr, cellsOf, afill, places, abuild, optI, asliceV, asliceS, szOk, srcCells, aappend, acopy, aclear, astore, amakeSlice, abuildSlice, snapL, mapO, treeL, AVal.tree, AVal.flatT, isFlat, ares, isFz, afroz, afrozB, lookupA, lookupH, tops, if_true, if_false, reduceCtorEq, forall_const, ite_true, ite_false, implies_true, walkS, tabS, Try.results44, eq_true rfl]
      · by_cases ei : a = i
        · subst ei
          simp (config := { maxSteps := 1000000 }) +decide only [NoH, Old, OldL, nilQ, nilA, asgn, nz, RechL, ReY, isNew, stepO, XPost, postN, XOk, updN, updU, isEff, avalue, aeff, ASt.eval, ASt.put, ASt.set, ASt.new, Nat.reduceDiv, Nat.reduceAdd, Int.reduceToNat, absV, absC, scalar, alen, acap, conc, flats, live, blkOf, aload, rd, part?, afieldAddr, afield, aindexAddr, cellsOf, afill, places, abuild, optI, asliceV, asliceS, szOk, srcCells, aappend, acopy, aclear, astore, amakeSlice, abuildSlice, snapL, mapO, treeL, AVal.tree, AVal.flatT, isFlat, ares, isFz, afroz, afrozB, lookupA, lookupH, tops, if_true, if_false, reduceCtorEq, forall_const, ite_true, ite_false, implies_true, walkS, tabS, Try.results44, ej]
        · simp (config := { maxSteps := 1000000 }) +decide only [NoH, Old, OldL, nilQ, nilA, asgn, nz, RechL, ReY, isNew, stepO, XPost, postN, XOk, updN, updU, isEff, avalue, aeff, ASt.eval, ASt.put, ASt.set, ASt.new, Nat.reduceDiv, Nat.reduceAdd, Int.reduceToNat, absV, absC, scalar, alen, acap, conc, flats, live, blkOf, aload, rd, part?, afieldAddr, afield, aindexAddr, cellsOf, afill, places, abuild, optI, asliceV, asliceS, szOk, srcCells, aappend, acopy, aclear, astore, amakeSlice, abuildSlice, snapL, mapO, treeL, AVal.tree, AVal.flatT, isFlat, ares, isFz, afroz, afrozB, lookupA, lookupH, tops, if_true, if_false, reduceCtorEq, forall_const, ite_true, ite_false, implies_true, walkS, tabS, Try.results44, ej, ei, ea]
  have ei : i = k := by omega
  subst ei
  have iltI : ¬ (i : Int) < (i : Int) := by omega
  simp (config := { maxSteps := 1000000 }) +decide only [NoH, Old, OldL, nilQ, nilA, asgn, nz, RechL, ReY, isNew, stepO, XPost, postN, XOk, updN, updU, isEff, avalue, aeff, ASt.eval, ASt.put, ASt.set, ASt.new, Nat.reduceDiv, Nat.reduceAdd, Int.reduceToNat, absV, absC, scalar, alen, acap, conc, flats, live, blkOf, aload, rd, part?, afieldAddr, afield, aindexAddr, cellsOf, afill, places, abuild, optI, asliceV, asliceS, szOk, srcCells, aappend, acopy, aclear, astore, amakeSlice, abuildSlice, snapL, mapO, treeL, AVal.tree, AVal.flatT, isFlat, ares, isFz, afroz, afrozB, lookupA, lookupH, tops, if_true, if_false, reduceCtorEq, forall_const, ite_true, ite_false, implies_true, walkS, tabS, Try.results44, eq_false iltI]
  have hA : treeL (mapC (lstC AVal.i) (matI q i)) = true := treeL_mapC _ _ fun r => treeL_mapC _ _ fun _ => rfl
  have hD : treeL (mapC ints D) = true := treeL_mapC _ _ fun r => treeL_mapC _ _ fun _ => rfl
  have hlA := matI_len q i
  refine yretW (s' := mkG (ghs [(28, ch 30 i)] [22, 29]) [(0, .ptr 0 0 0), (2, .ptr 2 1 0)] [(0, ⟨0, 3, [bytesV bs, .i s3.1, .u64 s3.2]⟩), (2, ⟨1, 2, [.lst (mapC ints D) i, .lst (mapC ints (matI q i)) i]⟩)] G3 63) (.step (s' := mkG (ghs [(28, ch 30 i)] [22, 29]) [(0, .ptr 0 0 0), (2, .ptr 2 1 0)] [(0, ⟨0, 3, [bytesV bs, .i s3.1, .u64 s3.2]⟩), (2, ⟨1, 2, [.own 23 gD 0 i, .own 30 gA 0 i]⟩), (23, ⟨gD, 1, mapC ints D⟩), (30, ⟨gA, 1, mapC (lstC AVal.i) (matI q i)⟩)] G3 63) ?_ (.step ?_ (.refl _))) (s3, D, matI q i) ⟨prD_of k3' hn1 hn2 k4' i3', by show D.length ≤ 6; omega⟩ ?_
  · refine weak_mk rfl (by first | exact Nat.le_refl _ | (simp only [mk_gen]; omega)) ?_ ?_ <;> simp +decide only [w_lookup_nil, w_lookup_cons, ch_ch, ch_lit, lit_ch, wkT, wkH, wkB, WVL, WV_refl', Int.natCast_zero, Int.natCast_add, Int.natCast_one, Nat.sub_self, Nat.sub_zero, List.replicate_zero, List.take_zero, List.nil_append, List.append_nil, fillC_zero, Nat.reduceDiv, Nat.reduceAdd, upd_bk, bk_at, getB_zero, getB_succ, modB_zero, modB_succ, rows_lit, repB_zero, repB_succ, List.length_cons, List.length_nil, upd_upd_same, upd_apply, mk_tmp, mk_heap, mk_gen, lookupA, lookupH, List.getD_cons_zero, List.getD_cons_succ, init_two, tops, Bool.true_and, and_self, and_true, true_and, true_or, if_true, if_false, ite_true, ite_false, reduceCtorEq, reduceIte, hA]
    refine .inr (WVL_fam (fun _ => rfl) (fun j hj => ?_) fun j => ?_)
    · simp (config := { maxSteps := 1000000 }) +decide only [NoH, Old, OldL, nilQ, nilA, asgn, nz, RechL, ReY, isNew, stepO, XPost, postN, XOk, updN, updU, isEff, avalue, aeff, ASt.eval, ASt.put, ASt.set, ASt.new, Nat.reduceDiv, Nat.reduceAdd, Int.reduceToNat, absV, absC, scalar, alen, acap, conc, flats, live, blkOf, aload, rd, part?, afieldAddr, afield, aindexAddr, cellsOf, afill, places, abuild, optI, asliceV, asliceS, szOk, srcCells, aappend, acopy, aclear, astore, amakeSlice, abuildSlice, snapL, mapO, treeL, AVal.tree, AVal.flatT, isFlat, ares, isFz, afroz, afrozB, lookupA, lookupH, tops, if_true, if_false, reduceCtorEq, forall_const, ite_true, ite_false, implies_true, walkS, tabS, Try.results44, famH_at hj]
    · simp (config := { maxSteps := 1000000 }) +decide only [NoH, Old, OldL, nilQ, nilA, asgn, nz, RechL, ReY, isNew, stepO, XPost, postN, XOk, updN, updU, isEff, avalue, aeff, ASt.eval, ASt.put, ASt.set, ASt.new, Nat.reduceDiv, Nat.reduceAdd, Int.reduceToNat, absV, absC, scalar, alen, acap, conc, flats, live, blkOf, aload, rd, part?, afieldAddr, afield, aindexAddr, cellsOf, afill, places, abuild, optI, asliceV, asliceS, szOk, srcCells, aappend, acopy, aclear, astore, amakeSlice, abuildSlice, snapL, mapO, treeL, AVal.tree, AVal.flatT, isFlat, ares, isFz, afroz, afrozB, lookupA, lookupH, tops, if_true, if_false, reduceCtorEq, forall_const, ite_true, ite_false, implies_true, walkS, tabS, Try.results44]
  · refine weak_mk rfl (by first | exact Nat.le_refl _ | (simp only [mk_gen]; omega)) ?_ ?_ <;> simp +decide only [w_lookup_nil, w_lookup_cons, ch_ch, ch_lit, lit_ch, wkT, wkH, wkB, WVL, WV_refl', Int.natCast_zero, Int.natCast_add, Int.natCast_one, Nat.sub_self, Nat.sub_zero, List.replicate_zero, List.take_zero, List.nil_append, List.append_nil, fillC_zero, Nat.reduceDiv, Nat.reduceAdd, upd_bk, bk_at, getB_zero, getB_succ, modB_zero, modB_succ, rows_lit, repB_zero, repB_succ, List.length_cons, List.length_nil, upd_upd_same, upd_apply, mk_tmp, mk_heap, mk_gen, lookupA, lookupH, List.getD_cons_zero, List.getD_cons_succ, init_two, tops, Bool.true_and, and_self, and_true, true_and, true_or, if_true, if_false, ite_true, ite_false, reduceCtorEq, reduceIte, hA, hD]
    exact .inr ⟨WV_frz rfl rfl rfl (by simp [len_mapC, k3']) (by rw [List.drop_zero]; exact (List.take_of_length_le (by rw [len_mapC, k3']; simp)).symm) hD, WV_frz rfl rfl rfl (by simp [len_mapC, hlA]) (by rw [List.drop_zero]; exact (List.take_of_length_le (by rw [len_mapC, hlA]; simp)).symm) hA⟩
  · simp (config := { maxSteps := 1000000 }) +decide only [NoH, Old, OldL, nilQ, nilA, asgn, nz, RechL, ReY, isNew, stepO, XPost, postN, XOk, updN, updU, isEff, avalue, aeff, ASt.eval, ASt.put, ASt.set, ASt.new, Nat.reduceDiv, Nat.reduceAdd, Int.reduceToNat, absV, absC, scalar, alen, acap, conc, flats, live, blkOf, aload, rd, part?, afieldAddr, afield, aindexAddr, cellsOf, afill, places, abuild, optI, asliceV, asliceS, szOk, srcCells, aappend, acopy, aclear, astore, amakeSlice, abuildSlice, snapL, mapO, treeL, AVal.tree, AVal.flatT, isFlat, ares, isFz, afroz, afrozB, lookupA, lookupH, tops, if_true, if_false, reduceCtorEq, forall_const, ite_true, ite_false, implies_true, walkS, tabS, Try.results44, hA, hD]
    show _ = AVal.agg [.lst (mapC ints D) D.length, .lst (mapC ints (matI q i)) (matI q i).length]
    rw [k3', hlA]
end Go.Proofs.Ytkmhoebopfgpdaa
