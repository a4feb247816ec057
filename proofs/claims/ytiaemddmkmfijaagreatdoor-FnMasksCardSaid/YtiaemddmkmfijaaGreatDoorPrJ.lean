/-
  OWN WORK: rows one behind the other; the bound by cliques.
-/
import Derived.Test.YtiaemddmkmfijaaGreatDoorSrt
import Derived.Test.YtiaemddmkmfijaaGreatDoorTi
namespace Go.Proofs.YtiaemddmkmfijaaGreatDoor
open Go Go.Own Go.Proofs Go.RowKit
set_option maxHeartbeats 4000000
set_option maxRecDepth 20000
set_option linter.unusedSimpArgs false
theorem zeroCells_one (z : Array Value) (n : Nat) (hz : z.size = 1) : (Builtin.zeroCells z n).size = n := by simp [Builtin.zeroCells, hz]
theorem info_i64 : ∃ i0 z, (Tryz.prog).info? 2 = some i0 ∧ i0.zero = some z ∧ i0.size = 1 ∧ i0.bytes = 8 ∧ z.cells.size = 1 := ⟨_, _, rfl, rfl, rfl, rfl, rfl⟩
theorem denx_GrowNil (n : Nat) (hn : n ≤ 1000000) : DenX Tryz.prog 141 [xints [], xi n] [.v (.lst [] 0), xi n] (xints []) := by
  obtain ⟨i0, z, hi0, hz0, hs0, hb0, hz1⟩ := info_i64
  refine ⟨⟨_, Tryz.func141, by kernel_rfl, by kernel_rfl⟩, fun w vs ok S hok hSlt hSn hglob hrep => ?_⟩
  obtain ⟨v, r, S1, S2, rfl, rfl, _, hv, hr⟩ := hrep
  obtain ⟨v2, r2, T1, T2, rfl, rfl, _, hv2, hr2, rfl⟩ := hr
  obtain ⟨rfl, _, hw2⟩ := hv2
  have e2 : v2 = .int .i64 n := hw2.2
  subst hr2 e2
  simp only [List.append_nil] at hok hSlt hSn ⊢
  obtain ⟨a, c, cs, rfl, hc1, hc2, hc3, hc4, hc5⟩ : ∃ (a : Option Addr) (c : Nat) (cs : List Value), v = .slice a 0 c ∧ c ≤ maxI ∧ cs.length = c ∧ (a = none → c = 0) ∧ (∀ x, a = some x → ∀ j v, cs[j]? = some v → w.cell? (x.add j) = some v) ∧
      (c = 0 ∨ ∃ b arr T, a = some ⟨b, 0, none⟩ ∧ S1 = [b] ∧ w.heap[b]? = some (.cells arr T (0, 0)) ∧ c ≤ arr.size) := by
    rcases ol_ints hv with ⟨a, rfl, _, _⟩ | ⟨b, c, arr, T, rfl, rfl, q1, q2, q3, q4, q5, q6, _⟩
    · exact ⟨a, 0, [], rfl, Nat.zero_le _, rfl, fun _ => rfl, fun _ _ j v hj => by simp at hj, .inl rfl⟩
    · have q4' : w.heap[b]? = some (.cells arr T (0, 0)) := q4
      refine ⟨some ⟨b, 0, none⟩, c, arr.toList.take c, rfl, q2, by simp; omega, fun h => by simp at h, fun x hx j v hj => ?_, .inr ⟨b, arr, T, rfl, rfl, q4', q6⟩⟩
      obtain rfl := Option.some.inj hx
      have hjc : j < c := by
        have := (List.getElem?_eq_some_iff.1 hj).1
        simp at this
        omega
      rw [List.getElem?_take_of_lt hjc] at hj
      have ea : (⟨b, 0, none⟩ : Addr).add j = ⟨b, j, none⟩ := by by_cases h0 : j = 0 <;> simp [Addr.add, h0]
      rw [ea]
      simp only [World.cell?, q4']
      simpa using hj
  by_cases hroom : n ≤ c
  · have h := Any8.slices_Grow_room Tryz.grow64 a 0 c n w (Nat.zero_le _) hc1 (by omega) (by omega)
    refine Calls.mono h ?_
    rintro e w' ⟨rfl, rfl⟩
    rcases hc5 with rfl | ⟨b, arr, T, rfl, rfl, g1, g2⟩
    · exact ⟨_, [], [], rfl, ⟨_, _, [], [], rfl, rfl, fun h => by simp at h, ⟨rfl, rfl, a, 0, rfl, Nat.le_refl _, Nat.zero_le _, .inl rfl⟩, ⟨_, _, [], [], rfl, rfl, fun h => by simp at h, ⟨rfl, rfl, rfl, rfl⟩, rfl, rfl⟩⟩, ⟨by simp [mapC], a, 0, rfl, by simp, Nat.zero_le _, .inl ⟨rfl, rfl⟩⟩, by simp, by simp, BelowB.refl _ _ _⟩
    · have hb := hSlt b (by simp)
      by_cases hc0 : c = 0
      · subst hc0
        exact ⟨_, [], [], rfl, ⟨_, _, [], [], rfl, rfl, fun h => by simp at h, ⟨rfl, rfl, _, 0, rfl, Nat.le_refl _, Nat.zero_le _, .inl rfl⟩, ⟨_, _, [], [], rfl, rfl, fun h => by simp at h, ⟨rfl, rfl, rfl, rfl⟩, rfl, rfl⟩⟩, ⟨by simp [mapC], _, 0, rfl, by simp, Nat.zero_le _, .inl ⟨rfl, rfl⟩⟩, by simp, by simp, BelowB.refl _ _ _⟩
      · refine ⟨_, [], [b], rfl, ⟨_, _, [], [], rfl, rfl, fun h => by simp at h, ⟨rfl, rfl, _, c, rfl, Nat.zero_le _, hc1, .inl rfl⟩, ⟨_, _, [], [], rfl, rfl, fun h => by simp at h, ⟨rfl, rfl, rfl, rfl⟩, rfl, rfl⟩⟩, ol_ints_of (xs := []) (Nat.zero_le _) hc1 hc0 g1 g2 fun j hj => by simp at hj, by simp, fun k hk => ?_, BelowB.refl _ _ _⟩
        simp only [List.nil_append, List.mem_singleton] at hk
        subst hk
        exact ⟨hb, .inl (by simp)⟩
  have h := Any8.slices_Grow_grow Tryz.grow64 i0 z hi0 hz0 (by omega) a 0 c n cs w (Nat.zero_le _) (by omega) (by rw [hb0]; omega) (by omega) (by rw [hs0]; omega) hc3 hc4
  refine Calls.mono h ?_
  rintro e w' ⟨rfl, rfl⟩
  have hge := grownCap_ge w (0 + n) c (Tryz.grow64_ren.t 25)
  have hle := grownCap_le_maxLen w (0 + n) c (Tryz.grow64_ren.t 25) (by unfold maxLen; omega)
  unfold maxLen at hle
  generalize grownCap w (0 + n) c (Tryz.grow64_ren.t 25) = G at hge hle ⊢
  have hs : (cs.toArray ++ Builtin.zeroCells z.cells (0 + n - c) ++ Builtin.zeroCells z.cells (G - (0 + n))).size = G := by
    simp only [Array.size_append, zeroCells_one _ _ hz1, List.size_toArray]
    omega
  generalize (cs.toArray ++ Builtin.zeroCells z.cells (0 + n - c) ++ Builtin.zeroCells z.cells (G - (0 + n))) = arr at hs ⊢
  have hB := below_alloc w.drew (.cells arr (Tryz.grow64_ren.t 25))
  have hnew : (w.drew.alloc (.cells arr (Tryz.grow64_ren.t 25))).heap[w.heap.size]? = some (.cells arr (Tryz.grow64_ren.t 25) (0, 0)) := heap_alloc_new w.drew _
  have hb : BelowB ⟨w, fun b => b ∈ S1, []⟩ (w.drew.alloc (.cells arr (Tryz.grow64_ren.t 25))) :=
    ⟨hB.os, hB.tape, hB.output, hB.size, fun k hk _ => hB.block k hk, fun k hk arr1 T1 fz1 e1 => ⟨arr1, T1, fz1, (hB.block k (hSlt k hk)).trans e1, Nat.le_refl _⟩⟩
  have hsz : w.heap.size < (w.drew.alloc (.cells arr (Tryz.grow64_ren.t 25))).heap.size := (Array.getElem?_eq_some_iff.1 hnew).1
  generalize w.drew.alloc (.cells arr (Tryz.grow64_ren.t 25)) = W at hb hnew hsz ⊢
  refine ⟨_, [], [w.heap.size], rfl, ⟨_, _, [], [], rfl, rfl, fun h => by simp at h, ⟨rfl, rfl, a, c, rfl, Nat.zero_le _, hc1, .inl rfl⟩, ⟨_, _, [], [], rfl, rfl, fun h => by simp at h, ⟨rfl, rfl, rfl, rfl⟩, rfl, rfl⟩⟩, ?_, by simp, fun b hb => ?_, hb⟩
  · exact ol_ints_of (xs := []) (Nat.zero_le _) (by unfold maxI; omega) (by omega) hnew (by omega) fun j hj => by simp at hj
  · simp only [List.nil_append, List.mem_singleton] at hb
    subst hb
    exact ⟨hsz, .inr (Nat.le_refl _)⟩
def lens' (ls : List (List Int)) : Nat := (ls.map List.length).sum
theorem lens'_snoc (ls : List (List Int)) (l : List Int) : lens' (ls ++ [l]) = lens' ls + l.length := by simp [lens']
theorem flat_len (ls : List (List Int)) : ls.flatten.length = lens' ls := by simp [lens', List.length_flatten]
theorem lens'_take (ls : List (List Int)) {k : Nat} (h : k < ls.length) : lens' (ls.take (k + 1)) = lens' (ls.take k) + ls[k].length := by
  rw [List.take_succ_eq_append_getElem h, lens'_snoc]
theorem flat_take (ls : List (List Int)) {k : Nat} (h : k < ls.length) : (ls.take (k + 1)).flatten = (ls.take k).flatten ++ ls[k] := by
  rw [List.take_succ_eq_append_getElem h, List.flatten_append]
  simp
theorem lens'_mono (ls : List (List Int)) (k : Nat) : lens' (ls.take k) ≤ lens' ls := by
  have h : ∀ a b : List (List Int), lens' (a ++ b) = lens' a + lens' b := fun a b => by simp [lens']
  have := h (ls.take k) (ls.drop k)
  rw [List.take_append_drop] at this
  omega
theorem denx_Concat (ls : List (List Int)) (h2 : lens' ls ≤ 1000000) (hl : ls.length ≤ 1000000) : DenX Tryz.prog 101 [.v (intss ls)] [.v (intss ls)] (xints ls.flatten) := by
  refine denx_of_awpG (ghs [(33, 24)] []) Tryz.func101 rfl (by kernel_rfl) (Nat.le_of_ble_eq_true rfl) (by simp +decide only [w_embA_nil, w_embA_cons, w_emb_v, w_emb_ol, w_emb_op, w_emb_agg, w_emb_tup, w_embL_nil, w_embL_cons, embL_i, List.map_cons, List.map_nil, List.nil_append, List.append_nil, List.cons_append, List.nodup_cons, List.nodup_nil, List.mem_cons, List.mem_nil_iff, List.not_mem_nil, ch_ch, ch_lit, lit_ch, Nat.reduceAdd]) mixed (by kernel_rfl) fun hl => ?_
  simp only [xlensL, xlens, lensL, lens, lensL_i, lensL_mapC, xlensL_i, maxI, and_true, true_and] at hl
  rw [Tryz.ntmps101]
  refine ex_start ?_
  simp (config := { maxSteps := 1000000 }) +decide only [NoH, Old, OldL, nilQ, nilA, asgn, nz, RechL, ReY, isNew, stepO, XPost, postN, XOk, updN, updU, isEff, avalue, aeff, ASt.eval, ASt.put, ASt.set, ASt.new, Nat.reduceDiv, Nat.reduceAdd, Int.reduceToNat, absV, absC, scalar, alen, acap, conc, flats, live, blkOf, aload, rd, part?, afieldAddr, afield, aindexAddr, cellsOf, afill, places, abuild, optI, asliceV, asliceS, szOk, srcCells, aappend, acopy, astore, amakeSlice, abuildSlice, snapL, mapO, treeL, AVal.tree, AVal.flatT, isFlat, ares, isFz, afroz, afrozB, lookupA, lookupH, tops, if_true, if_false, reduceCtorEq, forall_const, ite_true, ite_false, implies_true, walkS, tabS, Tryz.results101]
  refine ex_loop (fun k : {k : Nat // k ≤ ls.length} => mkG (ghs [(33, 24)] []) [(0, intss ls), (3, .i (lens' (ls.take k.1))), (9, intss ls), (10, .i ls.length), (11, .i k.1)] [] 1 36) (fun k => ls.length - k.1) ⟨0, Nat.zero_le _⟩ ?_ ?_
  · have e0 : lens' ([] : List (List Int)) = 0 := rfl
    refine weak_mk rfl (by first | exact Nat.le_refl _ | (simp only [mk_gen]; omega)) ?_ ?_ <;> simp +decide only [w_lookup_nil, w_lookup_cons, ch_ch, ch_lit, lit_ch, wkT, wkH, wkB, WVL, WV_refl', Int.natCast_zero, Int.natCast_add, Int.natCast_one, Nat.sub_self, Nat.sub_zero, List.replicate_zero, List.take_zero, List.nil_append, List.append_nil, fillC_zero, Nat.reduceDiv, Nat.reduceAdd, upd_bk, bk_at, getB_zero, getB_succ, modB_zero, modB_succ, rows_lit, repB_zero, repB_succ, List.length_cons, List.length_nil, upd_upd_same, upd_apply, mk_tmp, mk_heap, mk_gen, lookupA, lookupH, List.getD_cons_zero, List.getD_cons_succ, init_two, tops, Bool.true_and, and_self, and_true, true_and, true_or, if_true, if_false, ite_true, ite_false, reduceCtorEq, reduceIte, e0]
  rintro ⟨k, hk⟩
  have hk' : k ≤ ls.length := hk
  by_cases hlt : k < ls.length
  · have hltI : (k : Int) < (ls.length : Int) := by omega
    have hm := lens'_mono ls (k + 1)
    have ht := lens'_take ls hlt
    have w1 : IntKind.i64.wrap ((lens' (ls.take k) : Int) + (ls[k].length : Int)) = ((lens' (ls.take (k + 1)) : Nat) : Int) := (wrap64 (by omega) (by omega)).trans (by omega)
    have w2 : IntKind.i64.wrap ((k : Int) + 1) = ((k + 1 : Nat) : Int) := wrap64 (by omega) (by omega)
    have w3 : ¬ ((lens' (ls.take (k + 1)) : Nat) : Int) < 0 := by omega
    simp (config := { maxSteps := 1000000 }) +decide only [NoH, Old, OldL, nilQ, nilA, asgn, nz, RechL, ReY, isNew, stepO, XPost, postN, XOk, updN, updU, isEff, avalue, aeff, ASt.eval, ASt.put, ASt.set, ASt.new, Nat.reduceDiv, Nat.reduceAdd, Int.reduceToNat, absV, absC, scalar, alen, acap, conc, flats, live, blkOf, aload, rd, part?, afieldAddr, afield, aindexAddr, cellsOf, afill, places, abuild, optI, asliceV, asliceS, szOk, srcCells, aappend, acopy, astore, amakeSlice, abuildSlice, snapL, mapO, treeL, AVal.tree, AVal.flatT, isFlat, ares, isFz, afroz, afrozB, lookupA, lookupH, tops, if_true, if_false, reduceCtorEq, forall_const, ite_true, ite_false, implies_true, walkS, tabS, Tryz.results101, hlt, hltI, w1, w2, eq_false w3]
    refine ⟨⟨k + 1, hlt⟩, ?_, by show ls.length - (k + 1) < ls.length - k; omega⟩
    refine weak_mk rfl (by first | exact Nat.le_refl _ | (simp only [mk_gen]; omega)) ?_ ?_ <;> simp +decide only [w_lookup_nil, w_lookup_cons, ch_ch, ch_lit, lit_ch, wkT, wkH, wkB, WVL, WV_refl', Int.natCast_zero, Int.natCast_add, Int.natCast_one, Nat.sub_self, Nat.sub_zero, List.replicate_zero, List.take_zero, List.nil_append, List.append_nil, fillC_zero, Nat.reduceDiv, Nat.reduceAdd, upd_bk, bk_at, getB_zero, getB_succ, modB_zero, modB_succ, rows_lit, repB_zero, repB_succ, List.length_cons, List.length_nil, upd_upd_same, upd_apply, mk_tmp, mk_heap, mk_gen, lookupA, lookupH, List.getD_cons_zero, List.getD_cons_succ, init_two, tops, Bool.true_and, and_self, and_true, true_and, true_or, if_true, if_false, ite_true, ite_false, reduceCtorEq, reduceIte]
  have e : k = ls.length := by omega
  subst e
  have hltI : ¬ (ls.length : Int) < (ls.length : Int) := by omega
  have et : lens' (ls.take ls.length) = lens' ls := by rw [List.take_length]
  simp (config := { maxSteps := 1000000 }) +decide only [NoH, Old, OldL, nilQ, nilA, asgn, nz, RechL, ReY, isNew, stepO, XPost, postN, XOk, updN, updU, isEff, avalue, aeff, ASt.eval, ASt.put, ASt.set, ASt.new, Nat.reduceDiv, Nat.reduceAdd, Int.reduceToNat, absV, absC, scalar, alen, acap, conc, flats, live, blkOf, aload, rd, part?, afieldAddr, afield, aindexAddr, cellsOf, afill, places, abuild, optI, asliceV, asliceS, szOk, srcCells, aappend, acopy, astore, amakeSlice, abuildSlice, snapL, mapO, treeL, AVal.tree, AVal.flatT, isFlat, ares, isFz, afroz, afrozB, lookupA, lookupH, tops, if_true, if_false, reduceCtorEq, forall_const, ite_true, ite_false, implies_true, walkS, tabS, Tryz.results101, eq_false hltI, et]
  refine callX (denx_GrowNil (lens' ls) h2) (by simp (config := { maxSteps := 1000000 }) +decide only [NoH, Old, OldL, nilQ, nilA, asgn, nz, RechL, ReY, isNew, stepO, XPost, postN, XOk, updN, updU, isEff, avalue, aeff, ASt.eval, ASt.put, ASt.set, ASt.new, Nat.reduceDiv, Nat.reduceAdd, Int.reduceToNat, absV, absC, scalar, alen, acap, conc, flats, live, blkOf, aload, rd, part?, afieldAddr, afield, aindexAddr, cellsOf, afill, places, abuild, optI, asliceV, asliceS, szOk, srcCells, aappend, acopy, astore, amakeSlice, abuildSlice, snapL, mapO, treeL, AVal.tree, AVal.flatT, isFlat, ares, isFz, afroz, afrozB, lookupA, lookupH, tops, if_true, if_false, reduceCtorEq, forall_const, ite_true, ite_false, implies_true, walkS, tabS, Tryz.results101, mapC_nil, List.length_nil]) ?_
  simp (config := { maxSteps := 1000000 }) +decide only [NoH, Old, OldL, nilQ, nilA, asgn, nz, RechL, ReY, isNew, stepO, XPost, postN, XOk, updN, updU, isEff, avalue, aeff, ASt.eval, ASt.put, ASt.set, ASt.new, Nat.reduceDiv, Nat.reduceAdd, Int.reduceToNat, absV, absC, scalar, alen, acap, conc, flats, live, blkOf, aload, rd, part?, afieldAddr, afield, aindexAddr, cellsOf, afill, places, abuild, optI, asliceV, asliceS, szOk, srcCells, aappend, acopy, astore, amakeSlice, abuildSlice, snapL, mapO, treeL, AVal.tree, AVal.flatT, isFlat, ares, isFz, afroz, afrozB, lookupA, lookupH, tops, if_true, if_false, reduceCtorEq, forall_const, ite_true, ite_false, implies_true, walkS, tabS, Tryz.results101]
  refine ex_loop (fun p : {p : Nat × Nat × Nat // p.1 ≤ ls.length} => mkG (ghs [(33, 24)] []) [(0, intss ls), (6, .own 24 p.1.2.1 0 (ls.take p.1.1).flatten.length), (25, intss ls), (26, .i ls.length), (27, .i p.1.1)] [(24, ⟨p.1.2.1, 1, mapC AVal.i (ls.take p.1.1).flatten⟩)] p.1.2.2 36) (fun p => ls.length - p.1.1) ⟨(0, 1, 2), Nat.zero_le _⟩ ?_ ?_
  · refine weak_mk rfl (by first | exact Nat.le_refl _ | (simp only [mk_gen]; omega)) ?_ ?_ <;> simp +decide only [w_lookup_nil, w_lookup_cons, ch_ch, ch_lit, lit_ch, wkT, wkH, wkB, WVL, WV_refl', Int.natCast_zero, Int.natCast_add, Int.natCast_one, Nat.sub_self, Nat.sub_zero, List.replicate_zero, List.take_zero, List.nil_append, List.append_nil, fillC_zero, Nat.reduceDiv, Nat.reduceAdd, upd_bk, bk_at, getB_zero, getB_succ, modB_zero, modB_succ, rows_lit, repB_zero, repB_succ, List.length_cons, List.length_nil, upd_upd_same, upd_apply, mk_tmp, mk_heap, mk_gen, lookupA, lookupH, List.getD_cons_zero, List.getD_cons_succ, init_two, tops, Bool.true_and, and_self, and_true, true_and, true_or, if_true, if_false, ite_true, ite_false, reduceCtorEq, reduceIte, List.take_zero, List.flatten_nil, mapC_nil, List.length_nil]
  rintro ⟨⟨k, g, G⟩, hk⟩
  have hk' : k ≤ ls.length := hk
  have tf : List.take (ls.take k).flatten.length (ls.take k).flatten = (ls.take k).flatten := List.take_length
  by_cases hlt : k < ls.length
  · have hltI : (k : Int) < (ls.length : Int) := by omega
    have hm := lens'_mono ls (k + 1)
    have ht := lens'_take ls hlt
    have fl := flat_take ls hlt
    have h8 : ((ls.take k).flatten.length + ls[k].length) * 8 ≤ 140737488355328 := by rw [flat_len]; omega
    have w2 : IntKind.i64.wrap ((k : Int) + 1) = ((k + 1 : Nat) : Int) := wrap64 (by omega) (by omega)
    have tr : List.take ls[k].length ls[k] = ls[k] := List.take_length
    simp (config := { maxSteps := 1000000 }) +decide only [NoH, Old, OldL, nilQ, nilA, asgn, nz, RechL, ReY, isNew, stepO, XPost, postN, XOk, updN, updU, isEff, avalue, aeff, ASt.eval, ASt.put, ASt.set, ASt.new, Nat.reduceDiv, Nat.reduceAdd, Int.reduceToNat, absV, absC, scalar, alen, acap, conc, flats, live, blkOf, aload, rd, part?, afieldAddr, afield, aindexAddr, cellsOf, afill, places, abuild, optI, asliceV, asliceS, szOk, srcCells, aappend, acopy, astore, amakeSlice, abuildSlice, snapL, mapO, treeL, AVal.tree, AVal.flatT, isFlat, ares, isFz, afroz, afrozB, lookupA, lookupH, tops, if_true, if_false, reduceCtorEq, forall_const, ite_true, ite_false, implies_true, walkS, tabS, Tryz.results101, hlt, hltI, w2, h8, tf, tr, ← mapC_append]
    refine ⟨⟨(k + 1, G, G + 1), hlt⟩, ?_, by show ls.length - (k + 1) < ls.length - k; omega⟩
    refine weak_mk rfl (by first | exact Nat.le_refl _ | (simp only [mk_gen]; omega)) ?_ ?_ <;> simp +decide only [w_lookup_nil, w_lookup_cons, ch_ch, ch_lit, lit_ch, wkT, wkH, wkB, WVL, WV_refl', Int.natCast_zero, Int.natCast_add, Int.natCast_one, Nat.sub_self, Nat.sub_zero, List.replicate_zero, List.take_zero, List.nil_append, List.append_nil, fillC_zero, Nat.reduceDiv, Nat.reduceAdd, upd_bk, bk_at, getB_zero, getB_succ, modB_zero, modB_succ, rows_lit, repB_zero, repB_succ, List.length_cons, List.length_nil, upd_upd_same, upd_apply, mk_tmp, mk_heap, mk_gen, lookupA, lookupH, List.getD_cons_zero, List.getD_cons_succ, init_two, tops, Bool.true_and, and_self, and_true, true_and, true_or, if_true, if_false, ite_true, ite_false, reduceCtorEq, reduceIte, fl, List.length_append, mapC_append]
  have e : k = ls.length := by omega
  subst e
  have hltI : ¬ (ls.length : Int) < (ls.length : Int) := by omega
  rw [List.take_length] at tf
  simp (config := { maxSteps := 1000000 }) +decide only [NoH, Old, OldL, nilQ, nilA, asgn, nz, RechL, ReY, isNew, stepO, XPost, postN, XOk, updN, updU, isEff, avalue, aeff, ASt.eval, ASt.put, ASt.set, ASt.new, Nat.reduceDiv, Nat.reduceAdd, Int.reduceToNat, absV, absC, scalar, alen, acap, conc, flats, live, blkOf, aload, rd, part?, afieldAddr, afield, aindexAddr, cellsOf, afill, places, abuild, optI, asliceV, asliceS, szOk, srcCells, aappend, acopy, astore, amakeSlice, abuildSlice, snapL, mapO, treeL, AVal.tree, AVal.flatT, isFlat, ares, isFz, afroz, afrozB, lookupA, lookupH, tops, if_true, if_false, reduceCtorEq, forall_const, ite_true, ite_false, implies_true, walkS, tabS, Tryz.results101, eq_false hltI, List.take_length, tf]
end Go.Proofs.YtiaemddmkmfijaaGreatDoor
