/-
  OWN WORK: slices.Sorted(slices.Values(..)) as contracts.
-/
import Derived.Test.YtkmhoebopfgpdaaGrA
import Derived.Test.YtkmhoebopfgpdaaSrt
namespace Go.Proofs.Ytkmhoebopfgpdaa
open Go Go.Own Go.Proofs Go.RowKit
set_option maxHeartbeats 4000000
set_option maxRecDepth 20000
set_option linter.unusedSimpArgs false
set_option linter.unusedVariables false
theorem cells_of {E : Env} : ∀ (xs : List Int) (b off : Nat), RepC E (mapC AVal.i xs) b off → ∀ j (hj : j < xs.length), E.w.cell? ⟨b, off + j, none⟩ = some (.int .i64 xs[j])
  | [], _, _, _, j, hj => by simp at hj
  | x :: xs, b, off, ⟨⟨v, h1, _, h2⟩, h3⟩, j, hj => by
    cases j with
    | zero =>
      have : v = .int .i64 x := h2.2
      rw [this] at h1
      exact h1
    | succ j =>
      have := cells_of xs b (off + 1) h3 j (by simpa using hj)
      rw [show off + (j + 1) = off + 1 + j by omega]
      exact this
abbrev seqV (zs : List Int) : AVal := .clo 82 [.iptr [ints zs] 0]
theorem denx_Collect (zs : List Int) (h0 : zs ≠ []) (hz : zs.length ≤ 1000000) : DenX Try.prog 81 [.v (seqV zs)] [.v (seqV zs)] (xints zs) := by
  refine ⟨⟨_, Try.func81, by kernel_rfl, by kernel_rfl⟩, fun w vs ok S hok hSlt hSn hglob hrep => ?_⟩
  obtain ⟨v, r, S1, S2, rfl, rfl, _, ⟨rfl, ht, hv⟩, hr, rfl⟩ := hrep
  subst hr
  have hv0 := hv
  obtain ⟨us, rfl, hus⟩ := hv
  obtain ⟨p, r, rfl, ⟨Bs, base, rfl, hokB, ⟨sv, hsv, _, hsr⟩, _⟩, rfl⟩ := hus
  obtain ⟨a, c, rfl, hnc, hcm, hcc⟩ := hsr
  have hne : mapC AVal.i zs ≠ [] := fun e => h0 (by simpa [mapC] using e)
  obtain ⟨b, off, rfl, hokb, hC⟩ := hcc.resolve_left hne
  have hcell := cells_of zs b off hC
  have hk : Calls Try.prog 81 #[.func (.func 82) #[] #[.pointer (some ⟨Bs, base + 0, none⟩)]] w _ :=
    callsIn_wide.1 (Iter.collect_in Fence.wide 3 trivial trivial rfl (Nat.le_refl _) trivial Bs (base + 0) b off c zs (by show zs.length ≤ 9223372036854775807; omega) (by omega) w (hok b hokb).1 (hok Bs hokB).1 hsv fun j hj => by
      refine (hcell j hj).trans ?_
      simp [hj])
  refine hk.mono ?_
  rintro e w' ⟨v, rfl, hrow, hbel⟩
  have hl0 : 0 < zs.length := List.length_pos_iff.2 h0
  rcases hrow.2 with ⟨_, hz0⟩ | ⟨g, cap, cur, rfl, hbase, hgb, r1, r2, r3, r4⟩
  · omega
  have hglt : g < w'.heap.size := (Array.getElem?_eq_some_iff.1 hgb).1
  have hgn : ∀ b, ok b → b ≠ g := fun b hb e => by
    have := (hok b hb).1
    omega
  refine ⟨_, [], [g], rfl, ⟨_, _, [], [], rfl, rfl, fun h => by simp at h, ⟨rfl, ht, ?_⟩, rfl, rfl⟩, ?_, by simp, fun k hk => ?_, ⟨hbel.os, hbel.tape, hbel.output, hbel.size, fun k hk _ => hbel.block k hk, fun k hk => by simp at hk⟩⟩
  · refine repV_tree (E := treeEnv w ok) (E' := treeEnv w' (fun b => b < w'.heap.size ∧ b ∉ ([] : List Nat) ++ [g] ∧ (ok b ∨ b ∈ ([] : List Nat) ++ [] ∨ w.heap.size ≤ b))) (fun k hk => ⟨⟨Nat.lt_of_lt_of_le (hok k hk).1 hbel.size, by simpa using hgn k hk, .inl hk⟩, hbel.block k (hok k hk).1⟩) _ _ ht hv0
  · refine ol_ints_of (E := treeEnv w' _) (xs := zs) (T := 2) r1 (by exact r2) (by omega) hgb (by omega) fun j hj => ?_
    have e1 : cur.toList[j]? = some (.int .i64 zs[j]) := by
      have := congrArg (fun l => l[j]?) r4
      simp only [Nat.mul_one] at this
      rw [List.getElem?_take, if_pos hj] at this
      rw [this]
      simp [hj]
    have e2 : cur[j]? = some (.int .i64 zs[j]) := by simpa using e1
    show w'.cell? ⟨g, j, none⟩ = _
    simp [World.cell?, hgb, e2]
  · simp only [List.nil_append, List.mem_singleton] at hk
    subst hk
    exact ⟨hglt, .inr hbase⟩
theorem den_Values (zs : List Int) : Den Try.prog 55 [ints zs] (seqV zs) := by
  have t0 : treeL [ints zs] = true := by simp only [treeL, AVal.tree, treeL_i, Bool.and_self]
  refine den_of_awpG (ghs [] [1]) Try.func55 rfl (by kernel_rfl) (Nat.le_of_ble_eq_true rfl) (by simp only [treeL, AVal.tree, treeL_i, Bool.and_self]) (by simp only [seqV, treeL, AVal.tree, treeL_i, Bool.and_self]) mixed (by kernel_rfl) fun hl => ?_
  simp only [lensL, lens, lensL_i, lensL_mapC, maxI, and_true, true_and] at hl
  rw [Try.ntmps55]
  refine ex_start ?_
  simp (config := { maxSteps := 1000000 }) +decide only [NoH, Old, OldL, nilQ, nilA, asgn, nz, RechL, ReY, isNew, stepO, XPost, postN, XOk, updN, updU, isEff, avalue, aeff, ASt.eval, ASt.put, ASt.set, ASt.new, Nat.reduceDiv, Nat.reduceAdd, Int.reduceToNat, absV, absC, scalar, alen, acap, conc, flats, live, blkOf, aload, rd, part?, afieldAddr, afield, aindexAddr, cellsOf, afill, places, abuild, optI, asliceV, asliceS, szOk, srcCells, aappend, acopy, aclear, astore, amakeSlice, abuildSlice, snapL, mapO, treeL, AVal.tree, AVal.flatT, isFlat, ares, isFz, afroz, afrozB, lookupA, lookupH, tops, if_true, if_false, reduceCtorEq, forall_const, ite_true, ite_false, implies_true, walkS, tabS, Try.results55, t0, treeL_i]
  try rfl
theorem denx_Sorted (zs : List Int) (h0 : zs ≠ []) (hz : zs.length ≤ 1000000) : DenX Try.prog 54 [.v (seqV zs)] [.v (seqV zs)] (xints (sortI zs)) := by
  have t0 : treeL [ints zs] = true := by simp only [treeL, AVal.tree, treeL_i, Bool.and_self]
  have tz : List.take zs.length zs = zs := List.take_length
  have tz2 : List.take zs.length (sortI zs) = sortI zs := List.take_of_length_le (by rw [sortI_length]; exact Nat.le_refl _)
  refine denx_of_awp Try.func54 rfl (by kernel_rfl) (Nat.le_of_ble_eq_true rfl) (by simp +decide only [w_embA_nil, w_embA_cons, w_emb_v, w_emb_ol, w_emb_op, w_emb_agg, w_emb_tup, w_embL_nil, w_embL_cons, embL_i, List.map_cons, List.map_nil, List.nil_append, List.append_nil, List.cons_append, List.nodup_cons, List.nodup_nil, List.mem_cons, List.mem_nil_iff, List.not_mem_nil, ch_ch, ch_lit, lit_ch, Nat.reduceAdd]) mixed (by kernel_rfl) fun hl => ?_
  simp only [xlensL, xlens, lensL, lens, lensL_i, lensL_mapC, xlensL_i, maxI, and_true, true_and] at hl
  rw [Try.ntmps54]
  refine ex_start ?_
  simp (config := { maxSteps := 1000000 }) +decide only [NoH, Old, OldL, nilQ, nilA, asgn, nz, RechL, ReY, isNew, stepO, XPost, postN, XOk, updN, updU, isEff, avalue, aeff, ASt.eval, ASt.put, ASt.set, ASt.new, Nat.reduceDiv, Nat.reduceAdd, Int.reduceToNat, absV, absC, scalar, alen, acap, conc, flats, live, blkOf, aload, rd, part?, afieldAddr, afield, aindexAddr, cellsOf, afill, places, abuild, optI, asliceV, asliceS, szOk, srcCells, aappend, acopy, aclear, astore, amakeSlice, abuildSlice, snapL, mapO, treeL, AVal.tree, AVal.flatT, isFlat, ares, isFz, afroz, afrozB, lookupA, lookupH, tops, if_true, if_false, reduceCtorEq, forall_const, ite_true, ite_false, implies_true, walkS, tabS, Try.results54, t0, treeL_i]
  refine callX (denx_Collect zs h0 hz) (by simp (config := { maxSteps := 1000000 }) +decide only [NoH, Old, OldL, nilQ, nilA, asgn, nz, RechL, ReY, isNew, stepO, XPost, postN, XOk, updN, updU, isEff, avalue, aeff, ASt.eval, ASt.put, ASt.set, ASt.new, Nat.reduceDiv, Nat.reduceAdd, Int.reduceToNat, absV, absC, scalar, alen, acap, conc, flats, live, blkOf, aload, rd, part?, afieldAddr, afield, aindexAddr, cellsOf, afill, places, abuild, optI, asliceV, asliceS, szOk, srcCells, aappend, acopy, aclear, astore, amakeSlice, abuildSlice, snapL, mapO, treeL, AVal.tree, AVal.flatT, isFlat, ares, isFz, afroz, afrozB, lookupA, lookupH, tops, if_true, if_false, reduceCtorEq, forall_const, ite_true, ite_false, implies_true, walkS, tabS, Try.results54, t0, treeL_i]) ?_
  simp (config := { maxSteps := 1000000 }) +decide only [NoH, Old, OldL, nilQ, nilA, asgn, nz, RechL, ReY, isNew, stepO, XPost, postN, XOk, updN, updU, isEff, avalue, aeff, ASt.eval, ASt.put, ASt.set, ASt.new, Nat.reduceDiv, Nat.reduceAdd, Int.reduceToNat, absV, absC, scalar, alen, acap, conc, flats, live, blkOf, aload, rd, part?, afieldAddr, afield, aindexAddr, cellsOf, afill, places, abuild, optI, asliceV, asliceS, szOk, srcCells, aappend, acopy, aclear, astore, amakeSlice, abuildSlice, snapL, mapO, treeL, AVal.tree, AVal.flatT, isFlat, ares, isFz, afroz, afrozB, lookupA, lookupH, tops, if_true, if_false, reduceCtorEq, forall_const, ite_true, ite_false, implies_true, walkS, tabS, Try.results54, tz, treeL_i]
  refine callX (denx_sortI zs (by omega)) (by simp (config := { maxSteps := 1000000 }) +decide only [NoH, Old, OldL, nilQ, nilA, asgn, nz, RechL, ReY, isNew, stepO, XPost, postN, XOk, updN, updU, isEff, avalue, aeff, ASt.eval, ASt.put, ASt.set, ASt.new, Nat.reduceDiv, Nat.reduceAdd, Int.reduceToNat, absV, absC, scalar, alen, acap, conc, flats, live, blkOf, aload, rd, part?, afieldAddr, afield, aindexAddr, cellsOf, afill, places, abuild, optI, asliceV, asliceS, szOk, srcCells, aappend, acopy, aclear, astore, amakeSlice, abuildSlice, snapL, mapO, treeL, AVal.tree, AVal.flatT, isFlat, ares, isFz, afroz, afrozB, lookupA, lookupH, tops, if_true, if_false, reduceCtorEq, forall_const, ite_true, ite_false, implies_true, walkS, tabS, Try.results54, sortI_length, tz, tz2]) ?_
  simp (config := { maxSteps := 1000000 }) +decide only [NoH, Old, OldL, nilQ, nilA, asgn, nz, RechL, ReY, isNew, stepO, XPost, postN, XOk, updN, updU, isEff, avalue, aeff, ASt.eval, ASt.put, ASt.set, ASt.new, Nat.reduceDiv, Nat.reduceAdd, Int.reduceToNat, absV, absC, scalar, alen, acap, conc, flats, live, blkOf, aload, rd, part?, afieldAddr, afield, aindexAddr, cellsOf, afill, places, abuild, optI, asliceV, asliceS, szOk, srcCells, aappend, acopy, aclear, astore, amakeSlice, abuildSlice, snapL, mapO, treeL, AVal.tree, AVal.flatT, isFlat, ares, isFz, afroz, afrozB, lookupA, lookupH, tops, if_true, if_false, reduceCtorEq, forall_const, ite_true, ite_false, implies_true, walkS, tabS, Try.results54, sortI_length, tz, tz2, t0, treeL_i]
end Go.Proofs.Ytkmhoebopfgpdaa
