/-
  OWN WORK: the source of choices that the laws draw from: its state and what each of its draws yields.
-/
import Derived.Test.YtkmhoebopfgpdaaLibA
namespace Go.Proofs.Ytkmhoebopfgpdaa
open Go Go.Own Go.Proofs
set_option maxHeartbeats 4000000
set_option maxRecDepth 20000
set_option linter.unusedSimpArgs false
theorem sem_conv (P : Program) {s d : TypeId} {ks kd : IntKind} (n : Int) (hs : P.underlying s = some (.int ks)) (hd : P.underlying d = some (.int kd)) : semS P (convert s d (.int ks n)) = some (.flat (.int kd (kd.wrap n))) := by
  have u1 : semv P (underlying s) = some (.int ks) := by
    simp only [underlying, semv_bind, program, semv, hs]
    rfl
  have u2 : semv P (underlying d) = some (.int kd) := by
    simp only [underlying, semv_bind, program, semv, hd]
    rfl
  unfold convert
  simp only [semS, semv_bind, u1, u2]
  rfl
/-- the lowest eight bits -/
def lo8 (a : Int) : Int := IntKind.u64.wrap ((BitVec.ofInt 64 a &&& BitVec.ofInt 64 255).toNat : Int)
theorem lo8_in (a : Int) : 0 ≤ lo8 a ∧ lo8 a ≤ 255 := by
  have h : (BitVec.ofInt 64 a &&& BitVec.ofInt 64 255).toNat ≤ 255 := by
    rw [BitVec.toNat_and]
    exact Nat.and_le_right
  have e : lo8 a = ((BitVec.ofInt 64 a &&& BitVec.ofInt 64 255).toNat : Int) := by
    unfold lo8
    generalize (BitVec.ofInt 64 a &&& BitVec.ofInt 64 255).toNat = m at h ⊢
    show (m : Int) % (2 ^ 64 : Int) = m
    omega
  omega
theorem sem_shr40 (P : Program) (t : TypeId) (x y : Operand) (a : Int) : semS P (do eqGuard .shr t x y (.int .u64 a) (.int .u64 40); binOp .shr t (.int .u64 a) (.int .u64 40)) = some (.flat (.int .u64 (a.fdiv (2 ^ 40)))) := rfl
theorem sem_and255 (P : Program) (t : TypeId) (x y : Operand) (a : Int) : semS P (do eqGuard .and t x y (.int .u64 a) (.int .u64 255); binOp .and t (.int .u64 a) (.int .u64 255)) = some (.flat (.int .u64 (lo8 a))) := rfl
theorem sem_c1 (n : Int) : semS Try.prog (convert 5 3 (.int .u8 n)) = some (.flat (.int .i64 (IntKind.i64.wrap n))) := sem_conv _ n (by kernel_rfl) (by kernel_rfl)
theorem sem_c2 (n : Int) : semS Try.prog (convert 3 80 (.int .i64 n)) = some (.flat (.int .u64 (IntKind.u64.wrap n))) := sem_conv _ n (by kernel_rfl) (by kernel_rfl)
theorem sem_c3 (n : Int) : semS Try.prog (convert 80 2 (.int .u64 n)) = some (.flat (.int .i64 (IntKind.i64.wrap n))) := sem_conv _ n (by kernel_rfl) (by kernel_rfl)
theorem sem_c4 (n : Int) : semS Try.prog (convert 3 2 (.int .i64 n)) = some (.flat (.int .i64 (IntKind.i64.wrap n))) := sem_conv _ n (by kernel_rfl) (by kernel_rfl)
/-- bytes that are bytes, and few enough -/
structure Byt (bs : List Int) : Prop where
  lo : ∀ x ∈ bs, 0 ≤ x ∧ x ≤ 255
  len : bs.length ≤ 1048576
abbrev SrcS := Nat × Int
abbrev srcX (bs : List Int) (s : SrcS) : XT := .op [.v (bytesV bs), xi s.1, .v (AVal.u64 s.2)]
def sByte (bs : List Int) (s : SrcS) : Int := bs.getD s.1 0
def nx (bs : List Int) (s : SrcS) : SrcS := (s.1 + 1, IntKind.u64.wrap (IntKind.u64.wrap (IntKind.u64.wrap (s.2 * 6364136223846793005) + IntKind.u64.wrap (sByte bs s)) + 1442695040888963407))
def nv (bs : List Int) (s : SrcS) : Int := if s.1 < bs.length then sByte bs s else lo8 ((nx bs s).2.fdiv (2 ^ 40))
section
variable {bs : List Int} (hb : Byt bs) {s : SrcS}
include hb
theorem sByte_in (s : SrcS) : 0 ≤ sByte bs s ∧ sByte bs s ≤ 255 := by
  unfold sByte
  by_cases h : s.1 < bs.length
  · have := hb.lo bs[s.1] (List.getElem_mem h)
    simpa [List.getD, h] using this
  · simp [List.getD, h]
theorem nv_in (s : SrcS) : 0 ≤ nv bs s ∧ nv bs s ≤ 255 := by
  unfold nv
  split
  · exact sByte_in hb s
  · exact lo8_in _
end
theorem nx_fst (bs : List Int) (s : SrcS) : (nx bs s).1 = s.1 + 1 := rfl
theorem denx_next {bs : List Int} (hb : Byt bs) (s : SrcS) (hs : s.1 ≤ 1000000000000) : DenX Try.prog 92 [srcX bs s] [srcX bs (nx bs s)] (xi (nv bs s)) := by
  obtain ⟨a, d⟩ := s
  have ha : a ≤ 1000000000000 := hs
  have hbl := hb.len
  have hbl' : bs.length ≤ 1048576 := hbl
  have hin := sByte_in hb (a, d)
  have hnv := nv_in hb (a, d)
  have hw : IntKind.i64.wrap ((a : Int) + 1) = ((a + 1 : Nat) : Int) := wrap64 (by omega) (by omega)
  have hwb : IntKind.i64.wrap (sByte bs (a, d)) = sByte bs (a, d) := wrap64 (by omega) (by omega)
  by_cases h : a < bs.length
  · have e : nv bs (a, d) = sByte bs (a, d) := if_pos h
    have e2 : bs[a] = sByte bs (a, d) := by simp [sByte, List.getD, h]
    have h1 : ((a : Int) < (bs.length : Int)) := by omega
    have h2 : (((a + 1 : Nat) : Int) ≤ (bs.length : Int)) := by omega
    rw [e]
    refine denx_of_awp Try.func92 rfl (by kernel_rfl) (Nat.le_of_ble_eq_true rfl) (by simp +decide only [w_embA_nil, w_embA_cons, w_emb_v, w_emb_ol, w_emb_op, w_emb_agg, w_emb_tup, w_embL_nil, w_embL_cons, embL_i, List.map_cons, List.map_nil, List.nil_append, List.append_nil, List.cons_append, List.nodup_cons, List.nodup_nil, List.mem_cons, List.mem_nil_iff, List.not_mem_nil, ch_ch, ch_lit, lit_ch, Nat.reduceAdd]) mixed (by kernel_rfl) fun hl => ?_
    simp only [xlensL, xlens, lensL, lens, lensL_i, lensL_mapC, xlensL_i, maxI, and_true, true_and] at hl
    rw [Try.ntmps92]
    refine ex_start ?_
    simp (config := { maxSteps := 1000000 }) +decide only [NoH, Old, OldL, nilQ, nilA, asgn, nz, RechL, ReY, isNew, stepO, XPost, postN, XOk, updN, updU, isEff, avalue, aeff, ASt.eval, ASt.put, ASt.set, ASt.new, Nat.reduceDiv, Nat.reduceAdd, Int.reduceToNat, absV, absC, scalar, alen, acap, conc, flats, live, blkOf, aload, rd, part?, afieldAddr, afield, aindexAddr, cellsOf, afill, places, abuild, optI, asliceV, asliceS, szOk, srcCells, aappend, acopy, aclear, astore, amakeSlice, abuildSlice, snapL, mapO, treeL, AVal.tree, AVal.flatT, isFlat, ares, isFz, afroz, afrozB, lookupA, lookupH, tops, if_true, if_false, reduceCtorEq, forall_const, ite_true, ite_false, implies_true, walkS, tabS, Try.results92, h, h1, h2, hw, e2, hwb, sem_c1, sem_c2, sem_c3, nx]
  · have e : nv bs (a, d) = lo8 ((nx bs (a, d)).2.fdiv (2 ^ 40)) := if_neg h
    have e0 : sByte bs (a, d) = 0 := by simp [sByte, List.getD, h]
    have h1 : ¬ ((a : Int) < (bs.length : Int)) := by omega
    have h2 : ¬ (((a + 1 : Nat) : Int) ≤ (bs.length : Int)) := by omega
    have hn := lo8_in ((nx bs (a, d)).2.fdiv (2 ^ 40))
    have hwn : IntKind.i64.wrap (lo8 ((nx bs (a, d)).2.fdiv (2 ^ 40))) = lo8 ((nx bs (a, d)).2.fdiv (2 ^ 40)) := wrap64 (by omega) (by omega)
    rw [e]
    simp only [nx, e0] at hwn ⊢
    refine denx_of_awp Try.func92 rfl (by kernel_rfl) (Nat.le_of_ble_eq_true rfl) (by simp +decide only [w_embA_nil, w_embA_cons, w_emb_v, w_emb_ol, w_emb_op, w_emb_agg, w_emb_tup, w_embL_nil, w_embL_cons, embL_i, List.map_cons, List.map_nil, List.nil_append, List.append_nil, List.cons_append, List.nodup_cons, List.nodup_nil, List.mem_cons, List.mem_nil_iff, List.not_mem_nil, ch_ch, ch_lit, lit_ch, Nat.reduceAdd]) mixed (by kernel_rfl) fun hl => ?_
    simp only [xlensL, xlens, lensL, lens, lensL_i, lensL_mapC, xlensL_i, maxI, and_true, true_and] at hl
    rw [Try.ntmps92]
    refine ex_start ?_
    simp (config := { maxSteps := 1000000 }) +decide only [NoH, Old, OldL, nilQ, nilA, asgn, nz, RechL, ReY, isNew, stepO, XPost, postN, XOk, updN, updU, isEff, avalue, aeff, ASt.eval, ASt.put, ASt.set, ASt.new, Nat.reduceDiv, Nat.reduceAdd, Int.reduceToNat, absV, absC, scalar, alen, acap, conc, flats, live, blkOf, aload, rd, part?, afieldAddr, afield, aindexAddr, cellsOf, afill, places, abuild, optI, asliceV, asliceS, szOk, srcCells, aappend, acopy, aclear, astore, amakeSlice, abuildSlice, snapL, mapO, treeL, AVal.tree, AVal.flatT, isFlat, ares, isFz, afroz, afrozB, lookupA, lookupH, tops, if_true, if_false, reduceCtorEq, forall_const, ite_true, ite_false, implies_true, walkS, tabS, Try.results92, eq_false h1, eq_false h2, hw, hwn, sem_c1, sem_c2, sem_c3, sem_shr40, sem_and255]
def pkV (bs : List Int) (n : Int) (s : SrcS) : Int := if n ≤ 1 then 0 else if 200 < n then (nv bs s * 256 + nv bs (nx bs s)).tmod n else (nv bs s).tmod n
def pkS (bs : List Int) (n : Int) (s : SrcS) : SrcS := if n ≤ 1 then s else if 200 < n then nx bs (nx bs s) else nx bs s
theorem pkS_le (bs : List Int) (n : Int) (s : SrcS) : (pkS bs n s).1 ≤ s.1 + 2 := by
  unfold pkS
  split
  · omega
  · split <;> simp only [nx_fst] <;> omega
theorem pkV_in {bs : List Int} (hb : Byt bs) (n : Int) (s : SrcS) : 0 ≤ pkV bs n s ∧ (1 ≤ n → pkV bs n s < n) := by
  have h1 := nv_in hb s
  have h2 := nv_in hb (nx bs s)
  unfold pkV
  split
  · omega
  · split
    · exact ⟨Int.tmod_nonneg _ (by omega), fun h => Int.tmod_lt_of_pos _ (by omega)⟩
    · exact ⟨Int.tmod_nonneg _ (by omega), fun h => Int.tmod_lt_of_pos _ (by omega)⟩
theorem denx_pick {bs : List Int} (hb : Byt bs) (n : Int) (s : SrcS) (hs : s.1 ≤ 100000000000) : DenX Try.prog 69 [srcX bs s, xi n] [srcX bs (pkS bs n s), xi n] (xi (pkV bs n s)) := by
  have i1 := nv_in hb s
  have i2 := nv_in hb (nx bs s)
  have n1 : (nx bs s).1 ≤ 1000000000000 := by rw [nx_fst]; omega
  by_cases h1 : n ≤ 1
  · have e1 : pkV bs n s = 0 := if_pos h1
    have e2 : pkS bs n s = s := if_pos h1
    rw [e1, e2]
    refine denx_of_awp Try.func69 rfl (by kernel_rfl) (Nat.le_of_ble_eq_true rfl) (by simp +decide only [w_embA_nil, w_embA_cons, w_emb_v, w_emb_ol, w_emb_op, w_emb_agg, w_emb_tup, w_embL_nil, w_embL_cons, embL_i, List.map_cons, List.map_nil, List.nil_append, List.append_nil, List.cons_append, List.nodup_cons, List.nodup_nil, List.mem_cons, List.mem_nil_iff, List.not_mem_nil, ch_ch, ch_lit, lit_ch, Nat.reduceAdd]) mixed (by kernel_rfl) fun hl => ?_
    simp only [xlensL, xlens, lensL, lens, lensL_i, lensL_mapC, xlensL_i, maxI, and_true, true_and] at hl
    rw [Try.ntmps69]
    refine ex_start ?_
    simp (config := { maxSteps := 1000000 }) +decide only [NoH, Old, OldL, nilQ, nilA, asgn, nz, RechL, ReY, isNew, stepO, XPost, postN, XOk, updN, updU, isEff, avalue, aeff, ASt.eval, ASt.put, ASt.set, ASt.new, Nat.reduceDiv, Nat.reduceAdd, Int.reduceToNat, absV, absC, scalar, alen, acap, conc, flats, live, blkOf, aload, rd, part?, afieldAddr, afield, aindexAddr, cellsOf, afill, places, abuild, optI, asliceV, asliceS, szOk, srcCells, aappend, acopy, aclear, astore, amakeSlice, abuildSlice, snapL, mapO, treeL, AVal.tree, AVal.flatT, isFlat, ares, isFz, afroz, afrozB, lookupA, lookupH, tops, if_true, if_false, reduceCtorEq, forall_const, ite_true, ite_false, implies_true, walkS, tabS, Try.results69, h1]
  · by_cases h2 : 200 < n
    · have e1 : pkV bs n s = (nv bs s * 256 + nv bs (nx bs s)).tmod n := by unfold pkV; rw [if_neg h1, if_pos h2]
      have e2 : pkS bs n s = nx bs (nx bs s) := by unfold pkS; rw [if_neg h1, if_pos h2]
      have hw1 : IntKind.i64.wrap (nv bs s * 256) = nv bs s * 256 := wrap64 (by omega) (by omega)
      have hw2 : IntKind.i64.wrap (nv bs s * 256 + nv bs (nx bs s)) = nv bs s * 256 + nv bs (nx bs s) := wrap64 (by omega) (by omega)
      have hn0 : n ≠ 0 := by omega
      rw [e1, e2]
      refine denx_of_awp Try.func69 rfl (by kernel_rfl) (Nat.le_of_ble_eq_true rfl) (by simp +decide only [w_embA_nil, w_embA_cons, w_emb_v, w_emb_ol, w_emb_op, w_emb_agg, w_emb_tup, w_embL_nil, w_embL_cons, embL_i, List.map_cons, List.map_nil, List.nil_append, List.append_nil, List.cons_append, List.nodup_cons, List.nodup_nil, List.mem_cons, List.mem_nil_iff, List.not_mem_nil, ch_ch, ch_lit, lit_ch, Nat.reduceAdd]) mixed (by kernel_rfl) fun hl => ?_
      simp only [xlensL, xlens, lensL, lens, lensL_i, lensL_mapC, xlensL_i, maxI, and_true, true_and] at hl
      rw [Try.ntmps69]
      refine ex_start ?_
      simp (config := { maxSteps := 1000000 }) +decide only [NoH, Old, OldL, nilQ, nilA, asgn, nz, RechL, ReY, isNew, stepO, XPost, postN, XOk, updN, updU, isEff, avalue, aeff, ASt.eval, ASt.put, ASt.set, ASt.new, Nat.reduceDiv, Nat.reduceAdd, Int.reduceToNat, absV, absC, scalar, alen, acap, conc, flats, live, blkOf, aload, rd, part?, afieldAddr, afield, aindexAddr, cellsOf, afill, places, abuild, optI, asliceV, asliceS, szOk, srcCells, aappend, acopy, aclear, astore, amakeSlice, abuildSlice, snapL, mapO, treeL, AVal.tree, AVal.flatT, isFlat, ares, isFz, afroz, afrozB, lookupA, lookupH, tops, if_true, if_false, reduceCtorEq, forall_const, ite_true, ite_false, implies_true, walkS, tabS, Try.results69, eq_false h1]
      refine callX (denx_next hb s (by omega)) (by simp (config := { maxSteps := 1000000 }) +decide only [NoH, Old, OldL, nilQ, nilA, asgn, nz, RechL, ReY, isNew, stepO, XPost, postN, XOk, updN, updU, isEff, avalue, aeff, ASt.eval, ASt.put, ASt.set, ASt.new, Nat.reduceDiv, Nat.reduceAdd, Int.reduceToNat, absV, absC, scalar, alen, acap, conc, flats, live, blkOf, aload, rd, part?, afieldAddr, afield, aindexAddr, cellsOf, afill, places, abuild, optI, asliceV, asliceS, szOk, srcCells, aappend, acopy, aclear, astore, amakeSlice, abuildSlice, snapL, mapO, treeL, AVal.tree, AVal.flatT, isFlat, ares, isFz, afroz, afrozB, lookupA, lookupH, tops, if_true, if_false, reduceCtorEq, forall_const, ite_true, ite_false, implies_true, walkS, tabS, Try.results69]) ?_
      simp (config := { maxSteps := 1000000 }) +decide only [NoH, Old, OldL, nilQ, nilA, asgn, nz, RechL, ReY, isNew, stepO, XPost, postN, XOk, updN, updU, isEff, avalue, aeff, ASt.eval, ASt.put, ASt.set, ASt.new, Nat.reduceDiv, Nat.reduceAdd, Int.reduceToNat, absV, absC, scalar, alen, acap, conc, flats, live, blkOf, aload, rd, part?, afieldAddr, afield, aindexAddr, cellsOf, afill, places, abuild, optI, asliceV, asliceS, szOk, srcCells, aappend, acopy, aclear, astore, amakeSlice, abuildSlice, snapL, mapO, treeL, AVal.tree, AVal.flatT, isFlat, ares, isFz, afroz, afrozB, lookupA, lookupH, tops, if_true, if_false, reduceCtorEq, forall_const, ite_true, ite_false, implies_true, walkS, tabS, Try.results69, eq_true h2]
      refine callX (denx_next hb (nx bs s) n1) (by simp (config := { maxSteps := 1000000 }) +decide only [NoH, Old, OldL, nilQ, nilA, asgn, nz, RechL, ReY, isNew, stepO, XPost, postN, XOk, updN, updU, isEff, avalue, aeff, ASt.eval, ASt.put, ASt.set, ASt.new, Nat.reduceDiv, Nat.reduceAdd, Int.reduceToNat, absV, absC, scalar, alen, acap, conc, flats, live, blkOf, aload, rd, part?, afieldAddr, afield, aindexAddr, cellsOf, afill, places, abuild, optI, asliceV, asliceS, szOk, srcCells, aappend, acopy, aclear, astore, amakeSlice, abuildSlice, snapL, mapO, treeL, AVal.tree, AVal.flatT, isFlat, ares, isFz, afroz, afrozB, lookupA, lookupH, tops, if_true, if_false, reduceCtorEq, forall_const, ite_true, ite_false, implies_true, walkS, tabS, Try.results69]) ?_
      simp (config := { maxSteps := 1000000 }) +decide only [NoH, Old, OldL, nilQ, nilA, asgn, nz, RechL, ReY, isNew, stepO, XPost, postN, XOk, updN, updU, isEff, avalue, aeff, ASt.eval, ASt.put, ASt.set, ASt.new, Nat.reduceDiv, Nat.reduceAdd, Int.reduceToNat, absV, absC, scalar, alen, acap, conc, flats, live, blkOf, aload, rd, part?, afieldAddr, afield, aindexAddr, cellsOf, afill, places, abuild, optI, asliceV, asliceS, szOk, srcCells, aappend, acopy, aclear, astore, amakeSlice, abuildSlice, snapL, mapO, treeL, AVal.tree, AVal.flatT, isFlat, ares, isFz, afroz, afrozB, lookupA, lookupH, tops, if_true, if_false, reduceCtorEq, forall_const, ite_true, ite_false, implies_true, walkS, tabS, Try.results69, hw1, hw2, hn0, sem_rem]
    · have e1 : pkV bs n s = (nv bs s).tmod n := by unfold pkV; rw [if_neg h1, if_neg h2]
      have e2 : pkS bs n s = nx bs s := by unfold pkS; rw [if_neg h1, if_neg h2]
      have hn0 : n ≠ 0 := by omega
      rw [e1, e2]
      refine denx_of_awp Try.func69 rfl (by kernel_rfl) (Nat.le_of_ble_eq_true rfl) (by simp +decide only [w_embA_nil, w_embA_cons, w_emb_v, w_emb_ol, w_emb_op, w_emb_agg, w_emb_tup, w_embL_nil, w_embL_cons, embL_i, List.map_cons, List.map_nil, List.nil_append, List.append_nil, List.cons_append, List.nodup_cons, List.nodup_nil, List.mem_cons, List.mem_nil_iff, List.not_mem_nil, ch_ch, ch_lit, lit_ch, Nat.reduceAdd]) mixed (by kernel_rfl) fun hl => ?_
      simp only [xlensL, xlens, lensL, lens, lensL_i, lensL_mapC, xlensL_i, maxI, and_true, true_and] at hl
      rw [Try.ntmps69]
      refine ex_start ?_
      simp (config := { maxSteps := 1000000 }) +decide only [NoH, Old, OldL, nilQ, nilA, asgn, nz, RechL, ReY, isNew, stepO, XPost, postN, XOk, updN, updU, isEff, avalue, aeff, ASt.eval, ASt.put, ASt.set, ASt.new, Nat.reduceDiv, Nat.reduceAdd, Int.reduceToNat, absV, absC, scalar, alen, acap, conc, flats, live, blkOf, aload, rd, part?, afieldAddr, afield, aindexAddr, cellsOf, afill, places, abuild, optI, asliceV, asliceS, szOk, srcCells, aappend, acopy, aclear, astore, amakeSlice, abuildSlice, snapL, mapO, treeL, AVal.tree, AVal.flatT, isFlat, ares, isFz, afroz, afrozB, lookupA, lookupH, tops, if_true, if_false, reduceCtorEq, forall_const, ite_true, ite_false, implies_true, walkS, tabS, Try.results69, eq_false h1]
      refine callX (denx_next hb s (by omega)) (by simp (config := { maxSteps := 1000000 }) +decide only [NoH, Old, OldL, nilQ, nilA, asgn, nz, RechL, ReY, isNew, stepO, XPost, postN, XOk, updN, updU, isEff, avalue, aeff, ASt.eval, ASt.put, ASt.set, ASt.new, Nat.reduceDiv, Nat.reduceAdd, Int.reduceToNat, absV, absC, scalar, alen, acap, conc, flats, live, blkOf, aload, rd, part?, afieldAddr, afield, aindexAddr, cellsOf, afill, places, abuild, optI, asliceV, asliceS, szOk, srcCells, aappend, acopy, aclear, astore, amakeSlice, abuildSlice, snapL, mapO, treeL, AVal.tree, AVal.flatT, isFlat, ares, isFz, afroz, afrozB, lookupA, lookupH, tops, if_true, if_false, reduceCtorEq, forall_const, ite_true, ite_false, implies_true, walkS, tabS, Try.results69]) ?_
      simp (config := { maxSteps := 1000000 }) +decide only [NoH, Old, OldL, nilQ, nilA, asgn, nz, RechL, ReY, isNew, stepO, XPost, postN, XOk, updN, updU, isEff, avalue, aeff, ASt.eval, ASt.put, ASt.set, ASt.new, Nat.reduceDiv, Nat.reduceAdd, Int.reduceToNat, absV, absC, scalar, alen, acap, conc, flats, live, blkOf, aload, rd, part?, afieldAddr, afield, aindexAddr, cellsOf, afill, places, abuild, optI, asliceV, asliceS, szOk, srcCells, aappend, acopy, aclear, astore, amakeSlice, abuildSlice, snapL, mapO, treeL, AVal.tree, AVal.flatT, isFlat, ares, isFz, afroz, afrozB, lookupA, lookupH, tops, if_true, if_false, reduceCtorEq, forall_const, ite_true, ite_false, implies_true, walkS, tabS, Try.results69, eq_false h2, hn0, sem_rem]
theorem denx_one {bs : List Int} (hb : Byt bs) (n : Int) (s : SrcS) (hs : s.1 ≤ 100000000000) : DenX Try.prog 64 [srcX bs s, xi n] [srcX bs (pkS bs n s), xi n] (xb (decide (pkV bs n s = 0))) := by
  refine denx_of_awp Try.func64 rfl (by kernel_rfl) (Nat.le_of_ble_eq_true rfl) (by simp +decide only [w_embA_nil, w_embA_cons, w_emb_v, w_emb_ol, w_emb_op, w_emb_agg, w_emb_tup, w_embL_nil, w_embL_cons, embL_i, List.map_cons, List.map_nil, List.nil_append, List.append_nil, List.cons_append, List.nodup_cons, List.nodup_nil, List.mem_cons, List.mem_nil_iff, List.not_mem_nil, ch_ch, ch_lit, lit_ch, Nat.reduceAdd]) mixed (by kernel_rfl) fun hl => ?_
  simp only [xlensL, xlens, lensL, lens, lensL_i, lensL_mapC, xlensL_i, maxI, and_true, true_and] at hl
  rw [Try.ntmps64]
  refine ex_start ?_
  simp (config := { maxSteps := 1000000 }) +decide only [NoH, Old, OldL, nilQ, nilA, asgn, nz, RechL, ReY, isNew, stepO, XPost, postN, XOk, updN, updU, isEff, avalue, aeff, ASt.eval, ASt.put, ASt.set, ASt.new, Nat.reduceDiv, Nat.reduceAdd, Int.reduceToNat, absV, absC, scalar, alen, acap, conc, flats, live, blkOf, aload, rd, part?, afieldAddr, afield, aindexAddr, cellsOf, afill, places, abuild, optI, asliceV, asliceS, szOk, srcCells, aappend, acopy, aclear, astore, amakeSlice, abuildSlice, snapL, mapO, treeL, AVal.tree, AVal.flatT, isFlat, ares, isFz, afroz, afrozB, lookupA, lookupH, tops, if_true, if_false, reduceCtorEq, forall_const, ite_true, ite_false, implies_true, walkS, tabS, Try.results64]
  refine callX (denx_pick hb n s hs) (by simp (config := { maxSteps := 1000000 }) +decide only [NoH, Old, OldL, nilQ, nilA, asgn, nz, RechL, ReY, isNew, stepO, XPost, postN, XOk, updN, updU, isEff, avalue, aeff, ASt.eval, ASt.put, ASt.set, ASt.new, Nat.reduceDiv, Nat.reduceAdd, Int.reduceToNat, absV, absC, scalar, alen, acap, conc, flats, live, blkOf, aload, rd, part?, afieldAddr, afield, aindexAddr, cellsOf, afill, places, abuild, optI, asliceV, asliceS, szOk, srcCells, aappend, acopy, aclear, astore, amakeSlice, abuildSlice, snapL, mapO, treeL, AVal.tree, AVal.flatT, isFlat, ares, isFz, afroz, afrozB, lookupA, lookupH, tops, if_true, if_false, reduceCtorEq, forall_const, ite_true, ite_false, implies_true, walkS, tabS, Try.results64]) ?_
  simp (config := { maxSteps := 1000000 }) +decide only [NoH, Old, OldL, nilQ, nilA, asgn, nz, RechL, ReY, isNew, stepO, XPost, postN, XOk, updN, updU, isEff, avalue, aeff, ASt.eval, ASt.put, ASt.set, ASt.new, Nat.reduceDiv, Nat.reduceAdd, Int.reduceToNat, absV, absC, scalar, alen, acap, conc, flats, live, blkOf, aload, rd, part?, afieldAddr, afield, aindexAddr, cellsOf, afill, places, abuild, optI, asliceV, asliceS, szOk, srcCells, aappend, acopy, aclear, astore, amakeSlice, abuildSlice, snapL, mapO, treeL, AVal.tree, AVal.flatT, isFlat, ares, isFz, afroz, afrozB, lookupA, lookupH, tops, if_true, if_false, reduceCtorEq, forall_const, ite_true, ite_false, implies_true, walkS, tabS, Try.results64]
def amV (bs : List Int) (L : List Int) (s : SrcS) : Int := L.getD (pkV bs L.length s).toNat 0
theorem amV_mem {bs : List Int} (hb : Byt bs) {L : List Int} (hL : L ≠ []) (s : SrcS) : amV bs L s ∈ L := by
  have h := pkV_in hb L.length s
  have h0 : 0 < L.length := List.length_pos_iff.2 hL
  have h1 : (pkV bs L.length s).toNat < L.length := by have := h.2 (by omega); omega
  unfold amV
  simp [List.getD, h1]
theorem denx_among {bs : List Int} (hb : Byt bs) (L : List Int) (hL : L ≠ []) (m : Int) (hm : (L.length : Int) = m) (s : SrcS) (hs : s.1 ≤ 100000000000) : DenX Try.prog 70 [srcX bs s, .v (ints L)] [srcX bs (pkS bs m s), .v (ints L)] (xi (amV bs L s)) := by
  subst hm
  have h := pkV_in hb L.length s
  have h0 : 0 < L.length := List.length_pos_iff.2 hL
  obtain ⟨k, hk⟩ : ∃ k : Nat, pkV bs L.length s = k := ⟨(pkV bs L.length s).toNat, by omega⟩
  have hkl : k < L.length := by have := h.2 (by omega); omega
  have e : amV bs L s = L[k] := by unfold amV; rw [hk]; simp [List.getD, hkl]
  rw [e]
  refine denx_of_awp Try.func70 rfl (by kernel_rfl) (Nat.le_of_ble_eq_true rfl) (by simp +decide only [w_embA_nil, w_embA_cons, w_emb_v, w_emb_ol, w_emb_op, w_emb_agg, w_emb_tup, w_embL_nil, w_embL_cons, embL_i, List.map_cons, List.map_nil, List.nil_append, List.append_nil, List.cons_append, List.nodup_cons, List.nodup_nil, List.mem_cons, List.mem_nil_iff, List.not_mem_nil, ch_ch, ch_lit, lit_ch, Nat.reduceAdd]) mixed (by kernel_rfl) fun hl => ?_
  simp only [xlensL, xlens, lensL, lens, lensL_i, lensL_mapC, xlensL_i, maxI, and_true, true_and] at hl
  rw [Try.ntmps70]
  refine ex_start ?_
  simp (config := { maxSteps := 1000000 }) +decide only [NoH, Old, OldL, nilQ, nilA, asgn, nz, RechL, ReY, isNew, stepO, XPost, postN, XOk, updN, updU, isEff, avalue, aeff, ASt.eval, ASt.put, ASt.set, ASt.new, Nat.reduceDiv, Nat.reduceAdd, Int.reduceToNat, absV, absC, scalar, alen, acap, conc, flats, live, blkOf, aload, rd, part?, afieldAddr, afield, aindexAddr, cellsOf, afill, places, abuild, optI, asliceV, asliceS, szOk, srcCells, aappend, acopy, aclear, astore, amakeSlice, abuildSlice, snapL, mapO, treeL, AVal.tree, AVal.flatT, isFlat, ares, isFz, afroz, afrozB, lookupA, lookupH, tops, if_true, if_false, reduceCtorEq, forall_const, ite_true, ite_false, implies_true, walkS, tabS, Try.results70]
  refine callX (denx_pick hb L.length s hs) (by simp (config := { maxSteps := 1000000 }) +decide only [NoH, Old, OldL, nilQ, nilA, asgn, nz, RechL, ReY, isNew, stepO, XPost, postN, XOk, updN, updU, isEff, avalue, aeff, ASt.eval, ASt.put, ASt.set, ASt.new, Nat.reduceDiv, Nat.reduceAdd, Int.reduceToNat, absV, absC, scalar, alen, acap, conc, flats, live, blkOf, aload, rd, part?, afieldAddr, afield, aindexAddr, cellsOf, afill, places, abuild, optI, asliceV, asliceS, szOk, srcCells, aappend, acopy, aclear, astore, amakeSlice, abuildSlice, snapL, mapO, treeL, AVal.tree, AVal.flatT, isFlat, ares, isFz, afroz, afrozB, lookupA, lookupH, tops, if_true, if_false, reduceCtorEq, forall_const, ite_true, ite_false, implies_true, walkS, tabS, Try.results70]) ?_
  simp (config := { maxSteps := 1000000 }) +decide only [NoH, Old, OldL, nilQ, nilA, asgn, nz, RechL, ReY, isNew, stepO, XPost, postN, XOk, updN, updU, isEff, avalue, aeff, ASt.eval, ASt.put, ASt.set, ASt.new, Nat.reduceDiv, Nat.reduceAdd, Int.reduceToNat, absV, absC, scalar, alen, acap, conc, flats, live, blkOf, aload, rd, part?, afieldAddr, afield, aindexAddr, cellsOf, afill, places, abuild, optI, asliceV, asliceS, szOk, srcCells, aappend, acopy, aclear, astore, amakeSlice, abuildSlice, snapL, mapO, treeL, AVal.tree, AVal.flatT, isFlat, ares, isFz, afroz, afrozB, lookupA, lookupH, tops, if_true, if_false, reduceCtorEq, forall_const, ite_true, ite_false, implies_true, walkS, tabS, Try.results70, hk, hkl]
theorem denx_l00From (bs : List Int) : DenX Try.prog 28 [.v (bytesV bs)] [.v (bytesV bs)] (srcX bs (0, 0)) := by
  refine denx_of_awp Try.func28 rfl (by kernel_rfl) (Nat.le_of_ble_eq_true rfl) (by simp +decide only [w_embA_nil, w_embA_cons, w_emb_v, w_emb_ol, w_emb_op, w_emb_agg, w_emb_tup, w_embL_nil, w_embL_cons, embL_i, List.map_cons, List.map_nil, List.nil_append, List.append_nil, List.cons_append, List.nodup_cons, List.nodup_nil, List.mem_cons, List.mem_nil_iff, List.not_mem_nil, ch_ch, ch_lit, lit_ch, Nat.reduceAdd]) mixed (by kernel_rfl) fun hl => ?_
  simp only [xlensL, xlens, lensL, lens, lensL_i, lensL_mapC, xlensL_i, maxI, and_true, true_and] at hl
  rw [Try.ntmps28]
  refine ex_start ?_
  simp (config := { maxSteps := 1000000 }) +decide only [NoH, Old, OldL, nilQ, nilA, asgn, nz, RechL, ReY, isNew, stepO, XPost, postN, XOk, updN, updU, isEff, avalue, aeff, ASt.eval, ASt.put, ASt.set, ASt.new, Nat.reduceDiv, Nat.reduceAdd, Int.reduceToNat, absV, absC, scalar, alen, acap, conc, flats, live, blkOf, aload, rd, part?, afieldAddr, afield, aindexAddr, cellsOf, afill, places, abuild, optI, asliceV, asliceS, szOk, srcCells, aappend, acopy, aclear, astore, amakeSlice, abuildSlice, snapL, mapO, treeL, AVal.tree, AVal.flatT, isFlat, ares, isFz, afroz, afrozB, lookupA, lookupH, tops, if_true, if_false, reduceCtorEq, forall_const, ite_true, ite_false, implies_true, walkS, tabS, Try.results28]
end Go.Proofs.Ytkmhoebopfgpdaa
