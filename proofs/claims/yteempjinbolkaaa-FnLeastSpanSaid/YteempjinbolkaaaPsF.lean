/-
  OWN WORK: the reference's search for cliques.
-/
import Derived.Test.YteempjinbolkaaaPsE
namespace Go.Proofs.Yteempjinbolkaaa
open Go Go.Own Go.Proofs
set_option maxHeartbeats 4000000
set_option maxRecDepth 20000
set_option linter.unusedSimpArgs false
set_option linter.unusedVariables false
/-- a search's state in memory -/
abbrev qT (D A : List (List Int)) (d B : Int) (ch : List Int) (b : Int) (best : List Int) : XT := .op [.v (proP D A), xi d, xints ch, xints best, xi (B - b), xi B]
def Fits (A : List (List Int)) (d : Int) (ch : List Int) (c : Nat) (k : Nat) : Prop := ∀ j (h : j < ch.length), j < k → d ≤ ap A c ch[j]
theorem fits_succ {A : List (List Int)} {d : Int} {ch : List Int} {c k : Nat} (hk : k < ch.length) : Fits A d ch c (k + 1) ↔ Fits A d ch c k ∧ d ≤ ap A c ch[k] := by
  constructor
  · intro h
    exact ⟨fun j hj hjk => h j hj (by omega), h k hk (by omega)⟩
  · rintro ⟨h1, h2⟩ j hj hjk
    by_cases e : j = k
    · subst e; exact h2
    · exact h1 j hj (by omega)
theorem deny_qStep {D A : List (List Int)} (h : PrD D A) (d B : Int) (hB : B ≤ 20000) (f : Nat)
    (ih : ∀ (ch : List Int) (b : Int) (best : List Int), A.length - nxt ch < f → Clq A d ch → Clq A d best → ((2 ^ (A.length - nxt ch) : Nat) : Int) ≤ b → b ≤ B → DenY Try.prog 109 [qT D A d B ch b best, xi (nxt ch)] (Vis A d ch b best) (fun r => [qT D A d B ch r.1 r.2, xi (nxt ch)]) (fun _ => xb true))
    (ch : List Int) (b : Int) (best : List Int) (hf : A.length - nxt ch < f + 1) (hch : Clq A d ch) (hbe : Clq A d best) (hb0 : ((2 ^ (A.length - nxt ch) : Nat) : Int) ≤ b) (hb1 : b ≤ B) :
    DenY Try.prog 109 [qT D A d B ch b best, xi (nxt ch)] (Vis A d ch b best) (fun r => [qT D A d B ch r.1 r.2, xi (nxt ch)]) (fun _ => xb true) := by
  have hn6 := h.few
  have hl := h.len
  have hnx := nxt_le hch
  have hcl := len_le_nxt hch
  have hbl := len_le_nxt hbe
  have hbn := nxt_le hbe
  have hp1 : 1 ≤ 2 ^ (A.length - nxt ch) := Nat.one_le_two_pow
  have hw0 : IntKind.i64.wrap (B - b + 1) = B - (b - 1) := (wrap64 (by omega) (by omega)).trans (by omega)
  have hbn0 : ¬ B < B - (b - 1) := by omega
  have htk : List.take ch.length ch = ch := List.take_of_length_le (by omega)
  have htb : List.take best.length best = best := List.take_of_length_le (by omega)
  refine denY_of_awpG (ghs [(41, Own.ch 0 3)] [101]) Try.func109 rfl (by kernel_rfl) (Nat.le_of_ble_eq_true rfl) (by simp +decide only [w_embA_nil, w_embA_cons, w_emb_v, w_emb_ol, w_emb_op, w_emb_agg, w_emb_tup, w_embL_nil, w_embL_cons, embL_i, List.map_cons, List.map_nil, List.nil_append, List.append_nil, List.cons_append, List.nodup_cons, List.nodup_nil, List.mem_cons, List.mem_nil_iff, List.not_mem_nil, ch_ch, ch_lit, lit_ch, Nat.reduceAdd]) mixed (by kernel_rfl) fun hl => ?_
  simp only [xlensL, xlens, lensL, lens, lensL_i, lensL_mapC, xlensL_i, maxI, and_true, true_and] at hl
  rw [Try.ntmps109]
  refine ex_start ?_
  simp (config := { maxSteps := 1000000 }) +decide only [NoH, Old, OldL, nilQ, nilA, RechL, ReY, isNew, stepO, XPost, postN, XOk, updN, updU, isEff, avalue, aeff, ASt.eval, ASt.put, ASt.set, ASt.new, Nat.reduceDiv, Nat.reduceAdd, Int.reduceToNat, absV, absC, scalar, alen, acap, conc, flats, live, blkOf, aload, rd, part?, afieldAddr, afield, aindexAddr, cellsOf, afill, places, abuild, optI, asliceV, asliceS, szOk, srcCells, aappend, astore, amakeSlice, abuildSlice, snapL, mapO, treeL, AVal.tree, AVal.flatT, isFlat, ares, isFz, afroz, afrozB, lookupA, lookupH, tops, if_true, if_false, reduceCtorEq, forall_const, ite_true, ite_false, implies_true, walkS, tabS, Try.results109, hw0, eq_false hbn0, htk, htb]
  by_cases hc : best.length < ch.length
  case' pos =>
    obtain ⟨B0, eB⟩ : ∃ B0 : List Int, B0 = ch := ⟨_, rfl⟩
    have q1 : Clq A d B0 ∧ best.length ≤ B0.length ∧ ch.length ≤ B0.length := by rw [eB]; exact ⟨hch, by omega, Nat.le_refl _⟩
    obtain ⟨g5, G, e5, eG⟩ : ∃ g5 G : Nat, g5 = 1 ∧ G = 2 := ⟨_, _, rfl, rfl⟩
    simp (config := { maxSteps := 1000000 }) +decide only [NoH, Old, OldL, nilQ, nilA, RechL, ReY, isNew, stepO, XPost, postN, XOk, updN, updU, isEff, avalue, aeff, ASt.eval, ASt.put, ASt.set, ASt.new, Nat.reduceDiv, Nat.reduceAdd, Int.reduceToNat, absV, absC, scalar, alen, acap, conc, flats, live, blkOf, aload, rd, part?, afieldAddr, afield, aindexAddr, cellsOf, afill, places, abuild, optI, asliceV, asliceS, szOk, srcCells, aappend, astore, amakeSlice, abuildSlice, snapL, mapO, treeL, AVal.tree, AVal.flatT, isFlat, ares, isFz, afroz, afrozB, lookupA, lookupH, tops, if_true, if_false, reduceCtorEq, forall_const, ite_true, ite_false, implies_true, walkS, tabS, Try.results109, eq_true hc]
    refine callX (denx_l00Own ch (by omega)) (by simp (config := { maxSteps := 1000000 }) +decide only [NoH, Old, OldL, nilQ, nilA, RechL, ReY, isNew, stepO, XPost, postN, XOk, updN, updU, isEff, avalue, aeff, ASt.eval, ASt.put, ASt.set, ASt.new, Nat.reduceDiv, Nat.reduceAdd, Int.reduceToNat, absV, absC, scalar, alen, acap, conc, flats, live, blkOf, aload, rd, part?, afieldAddr, afield, aindexAddr, cellsOf, afill, places, abuild, optI, asliceV, asliceS, szOk, srcCells, aappend, astore, amakeSlice, abuildSlice, snapL, mapO, treeL, AVal.tree, AVal.flatT, isFlat, ares, isFz, afroz, afrozB, lookupA, lookupH, tops, if_true, if_false, reduceCtorEq, forall_const, ite_true, ite_false, implies_true, walkS, tabS, Try.results109, htk, htb]) ?_
    simp (config := { maxSteps := 1000000 }) +decide only [NoH, Old, OldL, nilQ, nilA, RechL, ReY, isNew, stepO, XPost, postN, XOk, updN, updU, isEff, avalue, aeff, ASt.eval, ASt.put, ASt.set, ASt.new, Nat.reduceDiv, Nat.reduceAdd, Int.reduceToNat, absV, absC, scalar, alen, acap, conc, flats, live, blkOf, aload, rd, part?, afieldAddr, afield, aindexAddr, cellsOf, afill, places, abuild, optI, asliceV, asliceS, szOk, srcCells, aappend, astore, amakeSlice, abuildSlice, snapL, mapO, treeL, AVal.tree, AVal.flatT, isFlat, ares, isFz, afroz, afrozB, lookupA, lookupH, tops, if_true, if_false, reduceCtorEq, forall_const, ite_true, ite_false, implies_true, walkS, tabS, Try.results109, htk, htb]
  case' neg =>
    obtain ⟨B0, eB⟩ : ∃ B0 : List Int, B0 = best := ⟨_, rfl⟩
    have q1 : Clq A d B0 ∧ best.length ≤ B0.length ∧ ch.length ≤ B0.length := by rw [eB]; exact ⟨hbe, Nat.le_refl _, by omega⟩
    obtain ⟨g5, G, e5, eG⟩ : ∃ g5 G : Nat, g5 = 0 ∧ G = 1 := ⟨_, _, rfl, rfl⟩
    simp (config := { maxSteps := 1000000 }) +decide only [NoH, Old, OldL, nilQ, nilA, RechL, ReY, isNew, stepO, XPost, postN, XOk, updN, updU, isEff, avalue, aeff, ASt.eval, ASt.put, ASt.set, ASt.new, Nat.reduceDiv, Nat.reduceAdd, Int.reduceToNat, absV, absC, scalar, alen, acap, conc, flats, live, blkOf, aload, rd, part?, afieldAddr, afield, aindexAddr, cellsOf, afill, places, abuild, optI, asliceV, asliceS, szOk, srcCells, aappend, astore, amakeSlice, abuildSlice, snapL, mapO, treeL, AVal.tree, AVal.flatT, isFlat, ares, isFz, afroz, afrozB, lookupA, lookupH, tops, if_true, if_false, reduceCtorEq, forall_const, ite_true, ite_false, implies_true, walkS, tabS, Try.results109, eq_false hc, htk, htb]
  all_goals
    refine ex_loop (fun p : {p : Nat × CS × (Nat × Nat × Nat) × List Int // nxt ch ≤ p.1 ∧ p.1 ≤ A.length ∧ VisI A d ch b best p.1 p.2.1} => mkG (ghs [(41, Own.ch 0 3)] [101]) [(0, .ptr 0 0 0), (5, .i p.1.1)] [(0, ⟨0, 6, [proP D A, .i d, .own (Own.ch 0 2) p.1.2.2.1.1 0 ch.length, .own (Own.ch 0 3) p.1.2.2.1.2.1 0 p.1.2.1.2.length, .i (B - p.1.2.1.1), .i B]⟩), (Own.ch 0 2, ⟨p.1.2.2.1.1, 1, mapC AVal.i (ch ++ p.1.2.2.2)⟩), (Own.ch 0 3, ⟨p.1.2.2.1.2.1, 1, mapC AVal.i p.1.2.1.2⟩)] p.1.2.2.1.2.2 125) (fun p => A.length - p.1.1) ⟨(nxt ch, (b - 1, B0), (0, g5, G), []), Nat.le_refl _, hnx, visI_start hch q1.1 q1.2.1 q1.2.2⟩ ?_ ?_
    · refine weak_mk rfl (by first | exact Nat.le_refl _ | (simp only [mk_gen]; omega)) ?_ ?_ <;> simp +decide only [w_lookup_nil, w_lookup_cons, ch_ch, ch_lit, lit_ch, wkT, wkH, wkB, WVL, WV_refl', Int.natCast_zero, Int.natCast_add, Int.natCast_one, Nat.sub_self, Nat.sub_zero, List.replicate_zero, List.take_zero, List.nil_append, List.append_nil, fillC_zero, Nat.reduceDiv, Nat.reduceAdd, upd_bk, bk_at, getB_zero, getB_succ, modB_zero, modB_succ, rows_lit, repB_zero, repB_succ, List.length_cons, List.length_nil, upd_upd_same, upd_apply, mk_tmp, mk_heap, mk_gen, lookupA, lookupH, List.getD_cons_zero, List.getD_cons_succ, init_two, tops, Bool.true_and, and_self, and_true, true_and, true_or, if_true, if_false, ite_true, ite_false, reduceCtorEq, reduceIte, List.append_nil, eB, e5, eG]
    rintro ⟨⟨c, ⟨b1, best1⟩, ⟨g4, g6, G1⟩, tl⟩, r1, r2, r3⟩
    have c1 : nxt ch ≤ c := r1
    have c2 : c ≤ A.length := r2
    have hv : VisI A d ch b best c (b1, best1) := r3
    have v1 := hv.lo
    have v2 := hv.hi
    have v3 := len_le_nxt hv.clq
    have v4 := nxt_le hv.clq
    simp only at v1 v2 v3 v4
    have htl : List.take ch.length (ch ++ tl) = ch := by rw [List.take_append_of_le_length (Nat.le_refl _), List.take_length]
    have hll : (ch ++ tl).length = ch.length + tl.length := List.length_append
    have hts : List.take best1.length best1 = best1 := List.take_of_length_le (by omega)
    by_cases clt : c < A.length
    case neg =>
      have e : c = A.length := by omega
      have cltI : ¬ (c : Int) < (D.length : Int) := by omega
      subst e
      simp (config := { maxSteps := 1000000 }) +decide only [NoH, Old, OldL, nilQ, nilA, RechL, ReY, isNew, stepO, XPost, postN, XOk, updN, updU, isEff, avalue, aeff, ASt.eval, ASt.put, ASt.set, ASt.new, Nat.reduceDiv, Nat.reduceAdd, Int.reduceToNat, absV, absC, scalar, alen, acap, conc, flats, live, blkOf, aload, rd, part?, afieldAddr, afield, aindexAddr, cellsOf, afill, places, abuild, optI, asliceV, asliceS, szOk, srcCells, aappend, astore, amakeSlice, abuildSlice, snapL, mapO, treeL, AVal.tree, AVal.flatT, isFlat, ares, isFz, afroz, afrozB, lookupA, lookupH, tops, if_true, if_false, reduceCtorEq, forall_const, ite_true, ite_false, implies_true, walkS, tabS, Try.results109, eq_false cltI]
      refine yret (b1, best1) (visI_end hv) ?_
      simp (config := { maxSteps := 1000000 }) +decide only [NoH, Old, OldL, nilQ, nilA, RechL, ReY, isNew, stepO, XPost, postN, XOk, updN, updU, isEff, avalue, aeff, ASt.eval, ASt.put, ASt.set, ASt.new, Nat.reduceDiv, Nat.reduceAdd, Int.reduceToNat, absV, absC, scalar, alen, acap, conc, flats, live, blkOf, aload, rd, part?, afieldAddr, afield, aindexAddr, cellsOf, afill, places, abuild, optI, asliceV, asliceS, szOk, srcCells, aappend, astore, amakeSlice, abuildSlice, snapL, mapO, treeL, AVal.tree, AVal.flatT, isFlat, ares, isFz, afroz, afrozB, lookupA, lookupH, tops, if_true, if_false, reduceCtorEq, forall_const, ite_true, ite_false, implies_true, walkS, tabS, Try.results109, htl, hll, hts, Nat.le_add_right]
    have cltI : (c : Int) < (D.length : Int) := by omega
    have hwc : IntKind.i64.wrap ((c : Int) + 1) = ((c + 1 : Nat) : Int) := wrap64 (by omega) (by omega)
    simp (config := { maxSteps := 1000000 }) +decide only [NoH, Old, OldL, nilQ, nilA, RechL, ReY, isNew, stepO, XPost, postN, XOk, updN, updU, isEff, avalue, aeff, ASt.eval, ASt.put, ASt.set, ASt.new, Nat.reduceDiv, Nat.reduceAdd, Int.reduceToNat, absV, absC, scalar, alen, acap, conc, flats, live, blkOf, aload, rd, part?, afieldAddr, afield, aindexAddr, cellsOf, afill, places, abuild, optI, asliceV, asliceS, szOk, srcCells, aappend, astore, amakeSlice, abuildSlice, snapL, mapO, treeL, AVal.tree, AVal.flatT, isFlat, ares, isFz, afroz, afrozB, lookupA, lookupH, tops, if_true, if_false, reduceCtorEq, forall_const, ite_true, ite_false, implies_true, walkS, tabS, Try.results109, eq_true cltI]
    refine ex_loop (fun p : {p : Nat × Bool // p.1 ≤ ch.length ∧ (p.2 = true ↔ Fits A d ch c p.1)} => mkG (ghs [(41, Own.ch 0 3)] [101]) [(0, .ptr 0 0 0), (5, .i c), (6, .b p.1.2), (7, .i p.1.1)] [(0, ⟨0, 6, [proP D A, .i d, .own (Own.ch 0 2) g4 0 ch.length, .own (Own.ch 0 3) g6 0 best1.length, .i (B - b1), .i B]⟩), (Own.ch 0 2, ⟨g4, 1, mapC AVal.i (ch ++ tl)⟩), (Own.ch 0 3, ⟨g6, 1, mapC AVal.i best1⟩)] G1 125) (fun p => ch.length - p.1.1) ⟨(0, true), Nat.zero_le _, ⟨fun _ j _ hj => absurd hj (Nat.not_lt_zero _), fun _ => rfl⟩⟩ ?_ ?_
    · refine weak_mk rfl (by first | exact Nat.le_refl _ | (simp only [mk_gen]; omega)) ?_ ?_ <;> simp +decide only [w_lookup_nil, w_lookup_cons, ch_ch, ch_lit, lit_ch, wkT, wkH, wkB, WVL, WV_refl', Int.natCast_zero, Int.natCast_add, Int.natCast_one, Nat.sub_self, Nat.sub_zero, List.replicate_zero, List.take_zero, List.nil_append, List.append_nil, fillC_zero, Nat.reduceDiv, Nat.reduceAdd, upd_bk, bk_at, getB_zero, getB_succ, modB_zero, modB_succ, rows_lit, repB_zero, repB_succ, List.length_cons, List.length_nil, upd_upd_same, upd_apply, mk_tmp, mk_heap, mk_gen, lookupA, lookupH, List.getD_cons_zero, List.getD_cons_succ, init_two, tops, Bool.true_and, and_self, and_true, true_and, true_or, if_true, if_false, ite_true, ite_false, reduceCtorEq, reduceIte]
    rintro ⟨⟨k, x⟩, k1, k2⟩
    have k1' : k ≤ ch.length := k1
    have k2' : x = true ↔ Fits A d ch c k := k2
    by_cases klt : k < ch.length
    case pos =>
      have kI : (k : Int) < (ch.length : Int) := by omega
      have kL : k < ch.length + tl.length := by omega
      have wk : IntKind.i64.wrap ((k : Int) + 1) = ((k + 1 : Nat) : Int) := wrap64 (by omega) (by omega)
      have hr := hch.rg _ (List.getElem_mem klt)
      obtain ⟨m, em, hm⟩ : ∃ m : Nat, ch[k] = m ∧ m < A.length := ⟨ch[k].toNat, by omega, by omega⟩
      have eg : (ch ++ tl)[k]'(by omega) = (m : Int) := by rw [List.getElem_append_left klt]; exact em
      have hrc := h.rl clt
      have hmr : m < A[c].length := by omega
      have eap : ap A (c : Int) (m : Int) = A[c][m] := by
        unfold ap
        rw [Int.toNat_natCast, Int.toNat_natCast]
        exact gdd clt hmr
      have hfs := fits_succ (A := A) (d := d) (c := c) klt
      rw [em, eap] at hfs
      cases x
      case false =>
        simp (config := { maxSteps := 1000000 }) +decide only [NoH, Old, OldL, nilQ, nilA, RechL, ReY, isNew, stepO, XPost, postN, XOk, updN, updU, isEff, avalue, aeff, ASt.eval, ASt.put, ASt.set, ASt.new, Nat.reduceDiv, Nat.reduceAdd, Int.reduceToNat, absV, absC, scalar, alen, acap, conc, flats, live, blkOf, aload, rd, part?, afieldAddr, afield, aindexAddr, cellsOf, afill, places, abuild, optI, asliceV, asliceS, szOk, srcCells, aappend, astore, amakeSlice, abuildSlice, snapL, mapO, treeL, AVal.tree, AVal.flatT, isFlat, ares, isFz, afroz, afrozB, lookupA, lookupH, tops, if_true, if_false, reduceCtorEq, forall_const, ite_true, ite_false, implies_true, walkS, tabS, Try.results109, eq_true kI, wk]
        refine ⟨⟨(k + 1, false), klt, ⟨fun h => by simp at h, fun hF => by have := k2'.2 (hfs.1 hF).1; simp at this⟩⟩, ?_, by show ch.length - (k + 1) < ch.length - k; omega⟩
        refine weak_mk rfl (by first | exact Nat.le_refl _ | (simp only [mk_gen]; omega)) ?_ ?_ <;> simp +decide only [w_lookup_nil, w_lookup_cons, ch_ch, ch_lit, lit_ch, wkT, wkH, wkB, WVL, WV_refl', Int.natCast_zero, Int.natCast_add, Int.natCast_one, Nat.sub_self, Nat.sub_zero, List.replicate_zero, List.take_zero, List.nil_append, List.append_nil, fillC_zero, Nat.reduceDiv, Nat.reduceAdd, upd_bk, bk_at, getB_zero, getB_succ, modB_zero, modB_succ, rows_lit, repB_zero, repB_succ, List.length_cons, List.length_nil, upd_upd_same, upd_apply, mk_tmp, mk_heap, mk_gen, lookupA, lookupH, List.getD_cons_zero, List.getD_cons_succ, init_two, tops, Bool.true_and, and_self, and_true, true_and, true_or, if_true, if_false, ite_true, ite_false, reduceCtorEq, reduceIte]
      case true =>
        have hF := k2'.1 rfl
        by_cases hg : d ≤ A[c][m]
        · simp (config := { maxSteps := 1000000 }) +decide only [NoH, Old, OldL, nilQ, nilA, RechL, ReY, isNew, stepO, XPost, postN, XOk, updN, updU, isEff, avalue, aeff, ASt.eval, ASt.put, ASt.set, ASt.new, Nat.reduceDiv, Nat.reduceAdd, Int.reduceToNat, absV, absC, scalar, alen, acap, conc, flats, live, blkOf, aload, rd, part?, afieldAddr, afield, aindexAddr, cellsOf, afill, places, abuild, optI, asliceV, asliceS, szOk, srcCells, aappend, astore, amakeSlice, abuildSlice, snapL, mapO, treeL, AVal.tree, AVal.flatT, isFlat, ares, isFz, afroz, afrozB, lookupA, lookupH, tops, if_true, if_false, reduceCtorEq, forall_const, ite_true, ite_false, implies_true, walkS, tabS, Try.results109, eq_true kI, klt, kL, hll, eg, clt, hmr, eq_true hg, wk]
          refine ⟨⟨(k + 1, true), klt, ⟨fun _ => hfs.2 ⟨hF, hg⟩, fun _ => rfl⟩⟩, ?_, by show ch.length - (k + 1) < ch.length - k; omega⟩
          refine weak_mk rfl (by first | exact Nat.le_refl _ | (simp only [mk_gen]; omega)) ?_ ?_ <;> simp +decide only [w_lookup_nil, w_lookup_cons, ch_ch, ch_lit, lit_ch, wkT, wkH, wkB, WVL, WV_refl', Int.natCast_zero, Int.natCast_add, Int.natCast_one, Nat.sub_self, Nat.sub_zero, List.replicate_zero, List.take_zero, List.nil_append, List.append_nil, fillC_zero, Nat.reduceDiv, Nat.reduceAdd, upd_bk, bk_at, getB_zero, getB_succ, modB_zero, modB_succ, rows_lit, repB_zero, repB_succ, List.length_cons, List.length_nil, upd_upd_same, upd_apply, mk_tmp, mk_heap, mk_gen, lookupA, lookupH, List.getD_cons_zero, List.getD_cons_succ, init_two, tops, Bool.true_and, and_self, and_true, true_and, true_or, if_true, if_false, ite_true, ite_false, reduceCtorEq, reduceIte]
        · simp (config := { maxSteps := 1000000 }) +decide only [NoH, Old, OldL, nilQ, nilA, RechL, ReY, isNew, stepO, XPost, postN, XOk, updN, updU, isEff, avalue, aeff, ASt.eval, ASt.put, ASt.set, ASt.new, Nat.reduceDiv, Nat.reduceAdd, Int.reduceToNat, absV, absC, scalar, alen, acap, conc, flats, live, blkOf, aload, rd, part?, afieldAddr, afield, aindexAddr, cellsOf, afill, places, abuild, optI, asliceV, asliceS, szOk, srcCells, aappend, astore, amakeSlice, abuildSlice, snapL, mapO, treeL, AVal.tree, AVal.flatT, isFlat, ares, isFz, afroz, afrozB, lookupA, lookupH, tops, if_true, if_false, reduceCtorEq, forall_const, ite_true, ite_false, implies_true, walkS, tabS, Try.results109, eq_true kI, klt, kL, hll, eg, clt, hmr, eq_false hg, wk]
          refine ⟨⟨(k + 1, false), klt, ⟨fun h => by simp at h, fun hF2 => (hg (hfs.1 hF2).2).elim⟩⟩, ?_, by show ch.length - (k + 1) < ch.length - k; omega⟩
          refine weak_mk rfl (by first | exact Nat.le_refl _ | (simp only [mk_gen]; omega)) ?_ ?_ <;> simp +decide only [w_lookup_nil, w_lookup_cons, ch_ch, ch_lit, lit_ch, wkT, wkH, wkB, WVL, WV_refl', Int.natCast_zero, Int.natCast_add, Int.natCast_one, Nat.sub_self, Nat.sub_zero, List.replicate_zero, List.take_zero, List.nil_append, List.append_nil, fillC_zero, Nat.reduceDiv, Nat.reduceAdd, upd_bk, bk_at, getB_zero, getB_succ, modB_zero, modB_succ, rows_lit, repB_zero, repB_succ, List.length_cons, List.length_nil, upd_upd_same, upd_apply, mk_tmp, mk_heap, mk_gen, lookupA, lookupH, List.getD_cons_zero, List.getD_cons_succ, init_two, tops, Bool.true_and, and_self, and_true, true_and, true_or, if_true, if_false, ite_true, ite_false, reduceCtorEq, reduceIte]
    have ek : k = ch.length := by omega
    subst ek
    have kI : ¬ (ch.length : Int) < (ch.length : Int) := by omega
    have hsy : ∀ (j : Nat) (hj : j < ch.length), ap A ch[j] c = ap A c ch[j] := fun j hj => (ap_mem h (x := (c : Int)) (y := ch[j]) ⟨by omega, by omega⟩ (hch.rg _ (List.getElem_mem hj))).2.2.2
    cases x
    case false =>
      have hn : ¬ Clq A d (ch ++ [(c : Int)]) := fun hk => by
        have hF : Fits A d ch c ch.length := fun j hj _ => by
          have := ((clq_snoc.1 hk).2.2 _ (List.getElem_mem hj)).2
          rw [hsy j hj] at this
          exact this
        have := k2'.2 hF
        simp at this
      simp (config := { maxSteps := 1000000 }) +decide only [NoH, Old, OldL, nilQ, nilA, RechL, ReY, isNew, stepO, XPost, postN, XOk, updN, updU, isEff, avalue, aeff, ASt.eval, ASt.put, ASt.set, ASt.new, Nat.reduceDiv, Nat.reduceAdd, Int.reduceToNat, absV, absC, scalar, alen, acap, conc, flats, live, blkOf, aload, rd, part?, afieldAddr, afield, aindexAddr, cellsOf, afill, places, abuild, optI, asliceV, asliceS, szOk, srcCells, aappend, astore, amakeSlice, abuildSlice, snapL, mapO, treeL, AVal.tree, AVal.flatT, isFlat, ares, isFz, afroz, afrozB, lookupA, lookupH, tops, if_true, if_false, reduceCtorEq, forall_const, ite_true, ite_false, implies_true, walkS, tabS, Try.results109, eq_false kI, hwc]
      refine ⟨⟨(c + 1, (b1, best1), (g4, g6, G1), tl), by show nxt ch ≤ c + 1; omega, clt, visI_skip hv clt hn⟩, ?_, by show A.length - (c + 1) < A.length - c; omega⟩
      refine weak_mk rfl (by first | exact Nat.le_refl _ | (simp only [mk_gen]; omega)) ?_ ?_ <;> simp +decide only [w_lookup_nil, w_lookup_cons, ch_ch, ch_lit, lit_ch, wkT, wkH, wkB, WVL, WV_refl', Int.natCast_zero, Int.natCast_add, Int.natCast_one, Nat.sub_self, Nat.sub_zero, List.replicate_zero, List.take_zero, List.nil_append, List.append_nil, fillC_zero, Nat.reduceDiv, Nat.reduceAdd, upd_bk, bk_at, getB_zero, getB_succ, modB_zero, modB_succ, rows_lit, repB_zero, repB_succ, List.length_cons, List.length_nil, upd_upd_same, upd_apply, mk_tmp, mk_heap, mk_gen, lookupA, lookupH, List.getD_cons_zero, List.getD_cons_succ, init_two, tops, Bool.true_and, and_self, and_true, true_and, true_or, if_true, if_false, ite_true, ite_false, reduceCtorEq, reduceIte]
    case true =>
      have hF := k2'.1 rfl
      have hk : Clq A d (ch ++ [(c : Int)]) := clq_snoc.2 ⟨hch, ⟨by omega, by omega⟩, fun x hx => ⟨by have := lt_nxt hch x hx; omega, by
        obtain ⟨j, hj, rfl⟩ := List.getElem_of_mem hx
        rw [hsy j hj]
        exact hF j hj hj⟩⟩
      have hp2 : 1 ≤ 2 ^ (A.length - (c + 1)) := Nat.one_le_two_pow
      have hp3 := pow_step clt
      have hx := ih (ch ++ [(c : Int)]) b1 best1 (by rw [nxt_snoc]; omega) hk hv.clq (by rw [nxt_snoc]; omega) (by omega)
      have h8 : (ch.length + 1) * 8 ≤ 140737488355328 := by omega
      have hlc : (ch ++ [(c : Int)]).length = ch.length + 1 := by simp
      have htc : List.take (ch.length + 1) (ch ++ [(c : Int)]) = ch ++ [(c : Int)] := List.take_of_length_le (by omega)
      have hwl : IntKind.i64.wrap (((ch.length + 1 : Nat) : Int) - 1) = (ch.length : Int) := (wrap64 (by omega) (by omega)).trans (by omega)
      have hl1 : ch.length ≤ ch.length + 1 := by omega
      have hl2 : ch.length < ch.length + 1 := by omega
      simp only [qT, xints, hlc, nxt_snoc] at hx
      simp (config := { maxSteps := 1000000 }) +decide only [NoH, Old, OldL, nilQ, nilA, RechL, ReY, isNew, stepO, XPost, postN, XOk, updN, updU, isEff, avalue, aeff, ASt.eval, ASt.put, ASt.set, ASt.new, Nat.reduceDiv, Nat.reduceAdd, Int.reduceToNat, absV, absC, scalar, alen, acap, conc, flats, live, blkOf, aload, rd, part?, afieldAddr, afield, aindexAddr, cellsOf, afill, places, abuild, optI, asliceV, asliceS, szOk, srcCells, aappend, astore, amakeSlice, abuildSlice, snapL, mapO, treeL, AVal.tree, AVal.flatT, isFlat, ares, isFz, afroz, afrozB, lookupA, lookupH, tops, if_true, if_false, reduceCtorEq, forall_const, ite_true, ite_false, implies_true, walkS, tabS, Try.results109, eq_false kI, hwc, h8, htl, hll, hts, Nat.le_add_right, List.replicate_succ, List.flatten_cons, List.flatten_nil, mapC_snoc]
      refine callY (hx) (by simp (config := { maxSteps := 1000000 }) +decide only [NoH, Old, OldL, nilQ, nilA, RechL, ReY, isNew, stepO, XPost, postN, XOk, updN, updU, isEff, avalue, aeff, ASt.eval, ASt.put, ASt.set, ASt.new, Nat.reduceDiv, Nat.reduceAdd, Int.reduceToNat, absV, absC, scalar, alen, acap, conc, flats, live, blkOf, aload, rd, part?, afieldAddr, afield, aindexAddr, cellsOf, afill, places, abuild, optI, asliceV, asliceS, szOk, srcCells, aappend, astore, amakeSlice, abuildSlice, snapL, mapO, treeL, AVal.tree, AVal.flatT, isFlat, ares, isFz, afroz, afrozB, lookupA, lookupH, tops, if_true, if_false, reduceCtorEq, forall_const, ite_true, ite_false, implies_true, walkS, tabS, Try.results109, hlc, htc, hts, htl, hl2]) (fun i hi => by simp (config := { maxSteps := 1000000 }) +decide only [NoH, Old, OldL, nilQ, nilA, RechL, ReY, isNew, stepO, XPost, postN, XOk, updN, updU, isEff, avalue, aeff, ASt.eval, ASt.put, ASt.set, ASt.new, Nat.reduceDiv, Nat.reduceAdd, Int.reduceToNat, absV, absC, scalar, alen, acap, conc, flats, live, blkOf, aload, rd, part?, afieldAddr, afield, aindexAddr, cellsOf, afill, places, abuild, optI, asliceV, asliceS, szOk, srcCells, aappend, astore, amakeSlice, abuildSlice, snapL, mapO, treeL, AVal.tree, AVal.flatT, isFlat, ares, isFz, afroz, afrozB, lookupA, lookupH, tops, if_true, if_false, reduceCtorEq, forall_const, ite_true, ite_false, implies_true, walkS, tabS, Try.results109, hlc, htc, hts, htl, hl2]) ?_
      rintro ⟨b2, best2⟩ hv2
      have hv3 : VisI A d ch b best (c + 1) (b2, best2) := visI_take hv clt hv2
      simp (config := { maxSteps := 1000000 }) +decide only [NoH, Old, OldL, nilQ, nilA, RechL, ReY, isNew, stepO, XPost, postN, XOk, updN, updU, isEff, avalue, aeff, ASt.eval, ASt.put, ASt.set, ASt.new, Nat.reduceDiv, Nat.reduceAdd, Int.reduceToNat, absV, absC, scalar, alen, acap, conc, flats, live, blkOf, aload, rd, part?, afieldAddr, afield, aindexAddr, cellsOf, afill, places, abuild, optI, asliceV, asliceS, szOk, srcCells, aappend, astore, amakeSlice, abuildSlice, snapL, mapO, treeL, AVal.tree, AVal.flatT, isFlat, ares, isFz, afroz, afrozB, lookupA, lookupH, tops, if_true, if_false, reduceCtorEq, forall_const, ite_true, ite_false, implies_true, walkS, tabS, Try.results109, hwc, hwl, hlc, htc, hl1, hl2, Nat.zero_le]
      refine ⟨⟨(c + 1, (b2, best2), (G1 + 1, G1 + 1, G1 + 2), [(c : Int)]), by show nxt ch ≤ c + 1; omega, clt, hv3⟩, ?_, by show A.length - (c + 1) < A.length - c; omega⟩
      refine weak_mk rfl (by first | exact Nat.le_refl _ | (simp only [mk_gen]; omega)) ?_ ?_ <;> simp +decide only [w_lookup_nil, w_lookup_cons, ch_ch, ch_lit, lit_ch, wkT, wkH, wkB, WVL, WV_refl', Int.natCast_zero, Int.natCast_add, Int.natCast_one, Nat.sub_self, Nat.sub_zero, List.replicate_zero, List.take_zero, List.nil_append, List.append_nil, fillC_zero, Nat.reduceDiv, Nat.reduceAdd, upd_bk, bk_at, getB_zero, getB_succ, modB_zero, modB_succ, rows_lit, repB_zero, repB_succ, List.length_cons, List.length_nil, upd_upd_same, upd_apply, mk_tmp, mk_heap, mk_gen, lookupA, lookupH, List.getD_cons_zero, List.getD_cons_succ, init_two, tops, Bool.true_and, and_self, and_true, true_and, true_or, if_true, if_false, ite_true, ite_false, reduceCtorEq, reduceIte]
theorem deny_q {D A : List (List Int)} (h : PrD D A) (d B : Int) (hB : B ≤ 20000) : ∀ (f : Nat) (ch : List Int) (b : Int) (best : List Int), A.length - nxt ch < f → Clq A d ch → Clq A d best → ((2 ^ (A.length - nxt ch) : Nat) : Int) ≤ b → b ≤ B →
    DenY Try.prog 109 [qT D A d B ch b best, xi (nxt ch)] (Vis A d ch b best) (fun r => [qT D A d B ch r.1 r.2, xi (nxt ch)]) (fun _ => xb true)
  | 0, _, _, _, h, _, _, _, _ => absurd h (Nat.not_lt_zero _)
  | f + 1, ch, b, best, hf, hch, hbe, hb0, hb1 => deny_qStep h d B hB f (fun ch b best h1 h2 h3 h4 h5 => deny_q h d B hB f ch b best h1 h2 h3 h4 h5) ch b best hf hch hbe hb0 hb1
end Go.Proofs.Yteempjinbolkaaa
