/-
  OWN WORK: servers of adjacent cells: the program's side.
-/
import Derived.Test.YtlcijhpjbkekpaaStE
import Derived.Test.YtlcijhpjbkekpaaMkS
namespace Go.Proofs.Ytlcijhpjbkekpaa
open Go Go.Own Go.Proofs
set_option maxHeartbeats 4000000
set_option maxRecDepth 20000
set_option linter.unusedSimpArgs false
section
variable {α : Type} {f : α → AVal} {ν g k : Nat} {gs : Nat → Nat} {ls : List (List α)} {r : List α} {h : Nat → Option Blk}
theorem lay_famC (hk : k < ls.length) {m : Nat} (hm : m = r.length) : lay (famC ν gs ls) k [.own (ch ν k) g 0 m] = famC ν (upd gs k g) (ls.set k r) := by
  subst hm
  apply List.ext_getElem?
  intro i
  have hl : (famC ν gs ls).length = ls.length := len_famC
  have e1 : lay (famC ν gs ls) k [.own (ch ν k) g 0 r.length] = (famC ν gs ls).set k (.own (ch ν k) g 0 r.length) := by
    unfold lay
    rw [List.set_eq_take_append_cons_drop, if_pos (by omega)]
    simp
  rw [e1, List.getElem?_set]
  by_cases hi : i < ls.length
  · rw [get_famC (show i < (ls.set k r).length by simpa using hi)]
    by_cases e : k = i
    · subst e
      rw [if_pos rfl, if_pos (by omega)]
      simp [upd]
    · rw [if_neg e, get_famC hi]
      have e2 : ¬ i = k := fun h => e h.symm
      simp [upd, e2, List.getElem_set_ne e]
  · have hik : ¬ k = i := by omega
    rw [if_neg hik, List.getElem?_eq_none (by omega), List.getElem?_eq_none (by rw [len_famC]; simp; omega)]
theorem in_set (hF : FamIn f h ν gs ls) (hk : k < ls.length) : FamIn f (upd h (ch ν k) (some ⟨g, 1, mapC f r⟩)) ν (upd gs k g) (ls.set k r) = True := eq_true fun j hj => by
  have hj2 : j < ls.length := by simpa using hj
  by_cases e : j = k
  · subst e
    simp [upd]
  · have e2 : ¬ k = j := fun h => e h.symm
    have e3 : ¬ ch ν j = ch ν k := fun h => by rw [ch_ch] at h; exact e h.2
    rw [upd_apply, if_neg e3, hF j hj2]
    simp [upd, e, List.getElem_set_ne e2]
end
theorem one0 : Own.one [] = AVal.tup [] := rfl
/-- both of a pair get a number more -/
def meetR (rows : List (List Int)) (a b : Nat) : List (List Int) := (rows.set a (rows.getD a [] ++ [(b : Int)])).set b (rows.getD b [] ++ [(a : Int)])
theorem denx_meetNo (rows : List (List Int)) (n : Nat) (hl0 : rows.length = n) (a b : Int) (hno : ¬ (0 ≤ a ∧ 0 ≤ b ∧ a ≠ b)) : DenX Try.prog 20 [xi a, xi b, .op [.ol 1 (mapC xints rows) n]] [xi a, xi b, .op [.ol 1 (mapC xints rows) n]] (.tup []) := by
  subst hl0
  rcases Classical.em (a < 0) with h1 | h1
  · have h1' : ¬ 0 ≤ a := by omega
    refine denx_of_awp Try.func20 rfl (by kernel_rfl) (Nat.le_of_ble_eq_true rfl) (by simp +decide only [w_embA_nil, w_embA_cons, w_emb_v, w_emb_ol, w_emb_op, w_emb_agg, w_emb_tup, w_embL_nil, w_embL_cons, embL_i, List.map_cons, List.map_nil, List.nil_append, List.append_nil, List.cons_append, List.nodup_cons, List.nodup_nil, List.mem_cons, List.mem_nil_iff, List.not_mem_nil, ch_ch, ch_lit, lit_ch, Nat.reduceAdd, famS, famS2, famS3, len_mapC]) mixed (by kernel_rfl) fun hl => ?_
    simp only [xlensL, xlens, lensL, lens, lensL_i, lensL_mapC, xlensL_i, xlensL_rows, maxI, and_true, true_and] at hl
    rw [Try.ntmps20]
    refine ex_start ?_
    simp (config := { maxSteps := 1000000 }) +decide only [NoH, Old, OldL, nilQ, nilA, RechL, ReY, isNew, stepO, XPost, postN, XOk, updN, updU, isEff, avalue, aeff, ASt.eval, ASt.put, ASt.set, ASt.new, Nat.reduceDiv, Nat.reduceAdd, Int.reduceToNat, absV, absC, scalar, alen, acap, conc, flats, live, blkOf, aload, rd, part?, afieldAddr, afield, aindexAddr, cellsOf, afill, places, abuild, optI, asliceV, asliceS, szOk, srcCells, aappend, astore, amakeSlice, abuildSlice, snapL, mapO, treeL, AVal.tree, AVal.flatT, isFlat, ares, isFz, afroz, afrozB, lookupA, lookupH, tops, if_true, if_false, reduceCtorEq, forall_const, ite_true, ite_false, implies_true, walkS, tabS, Try.results20, famS, famS2, famS3, h1, eq_false h1', one0]
  have h1' : 0 ≤ a := by omega
  rcases Classical.em (b < 0) with h2 | h2
  · have h2' : ¬ 0 ≤ b := by omega
    refine denx_of_awp Try.func20 rfl (by kernel_rfl) (Nat.le_of_ble_eq_true rfl) (by simp +decide only [w_embA_nil, w_embA_cons, w_emb_v, w_emb_ol, w_emb_op, w_emb_agg, w_emb_tup, w_embL_nil, w_embL_cons, embL_i, List.map_cons, List.map_nil, List.nil_append, List.append_nil, List.cons_append, List.nodup_cons, List.nodup_nil, List.mem_cons, List.mem_nil_iff, List.not_mem_nil, ch_ch, ch_lit, lit_ch, Nat.reduceAdd, famS, famS2, famS3, len_mapC]) mixed (by kernel_rfl) fun hl => ?_
    simp only [xlensL, xlens, lensL, lens, lensL_i, lensL_mapC, xlensL_i, xlensL_rows, maxI, and_true, true_and] at hl
    rw [Try.ntmps20]
    refine ex_start ?_
    simp (config := { maxSteps := 1000000 }) +decide only [NoH, Old, OldL, nilQ, nilA, RechL, ReY, isNew, stepO, XPost, postN, XOk, updN, updU, isEff, avalue, aeff, ASt.eval, ASt.put, ASt.set, ASt.new, Nat.reduceDiv, Nat.reduceAdd, Int.reduceToNat, absV, absC, scalar, alen, acap, conc, flats, live, blkOf, aload, rd, part?, afieldAddr, afield, aindexAddr, cellsOf, afill, places, abuild, optI, asliceV, asliceS, szOk, srcCells, aappend, astore, amakeSlice, abuildSlice, snapL, mapO, treeL, AVal.tree, AVal.flatT, isFlat, ares, isFz, afroz, afrozB, lookupA, lookupH, tops, if_true, if_false, reduceCtorEq, forall_const, ite_true, ite_false, implies_true, walkS, tabS, Try.results20, famS, famS2, famS3, eq_true h1', eq_false h2', one0]
  have h2' : 0 ≤ b := by omega
  have h3 : a = b := by omega
  subst h3
  refine denx_of_awp Try.func20 rfl (by kernel_rfl) (Nat.le_of_ble_eq_true rfl) (by simp +decide only [w_embA_nil, w_embA_cons, w_emb_v, w_emb_ol, w_emb_op, w_emb_agg, w_emb_tup, w_embL_nil, w_embL_cons, embL_i, List.map_cons, List.map_nil, List.nil_append, List.append_nil, List.cons_append, List.nodup_cons, List.nodup_nil, List.mem_cons, List.mem_nil_iff, List.not_mem_nil, ch_ch, ch_lit, lit_ch, Nat.reduceAdd, famS, famS2, famS3, len_mapC]) mixed (by kernel_rfl) fun hl => ?_
  simp only [xlensL, xlens, lensL, lens, lensL_i, lensL_mapC, xlensL_i, xlensL_rows, maxI, and_true, true_and] at hl
  rw [Try.ntmps20]
  refine ex_start ?_
  simp (config := { maxSteps := 1000000 }) +decide only [NoH, Old, OldL, nilQ, nilA, RechL, ReY, isNew, stepO, XPost, postN, XOk, updN, updU, isEff, avalue, aeff, ASt.eval, ASt.put, ASt.set, ASt.new, Nat.reduceDiv, Nat.reduceAdd, Int.reduceToNat, absV, absC, scalar, alen, acap, conc, flats, live, blkOf, aload, rd, part?, afieldAddr, afield, aindexAddr, cellsOf, afill, places, abuild, optI, asliceV, asliceS, szOk, srcCells, aappend, astore, amakeSlice, abuildSlice, snapL, mapO, treeL, AVal.tree, AVal.flatT, isFlat, ares, isFz, afroz, afrozB, lookupA, lookupH, tops, if_true, if_false, reduceCtorEq, forall_const, ite_true, ite_false, implies_true, walkS, tabS, Try.results20, famS, famS2, famS3, eq_true h1', one0]
theorem denx_meet (rows : List (List Int)) (n : Nat) (hl0 : rows.length = n) (hr : ∀ r ∈ rows, r.length ≤ 1000000) (a b : Nat) (hne : a ≠ b) (ha : a < n) (hb : b < n) : DenX Try.prog 20 [xi a, xi b, .op [.ol 1 (mapC xints rows) n]] [xi a, xi b, .op [.ol 1 (mapC xints (meetR rows a b)) n]] (.tup []) := by
  subst hl0
  have ea : rows.getD a [] = rows[a] := by simp [List.getD, ha]
  have eb : rows.getD b [] = rows[b] := by simp [List.getD, hb]
  unfold meetR
  rw [ea, eb]
  have ra := hr _ (List.getElem_mem ha)
  have rb := hr _ (List.getElem_mem hb)
  have h8a : (rows[a].length + 1) * 8 ≤ 140737488355328 := by omega
  have h8b : (rows[b].length + 1) * 8 ≤ 140737488355328 := by omega
  have hneI : ¬ (a : Int) = b := by omega
  have ga := get_famC (ν := ch 2 0) (gs := fun _ => 0) ha
  have gb := get_famC (ν := ch 2 0) (gs := fun _ => 0) hb
  have fa := famH_at (f := AVal.i) (ν := ch 2 0) (gs := fun _ => 0) ha
  have fb := famH_at (f := AVal.i) (ν := ch 2 0) (gs := fun _ => 0) hb
  have ua := lookU_at (f := AVal.i) (ν := ch 2 0) (gs := fun _ => 0) ha
  have ub := lookU_at (f := AVal.i) (ν := ch 2 0) (gs := fun _ => 0) hb
  have hba : ¬ b = a := fun h => hne h.symm
  have L1 := fun G : Nat => lay_famC (ν := ch 2 0) (gs := fun _ => 0) (g := G) (r := rows[a] ++ [(b : Int)]) (m := rows[a].length + 1) ha (by simp)
  have hb2 : b < (rows.set a (rows[a] ++ [(b : Int)])).length := by rw [List.length_set]; exact hb
  have L2 := fun G G2 : Nat => lay_famC (ν := ch 2 0) (gs := upd (fun _ => 0) a G) (g := G2) (ls := rows.set a (rows[a] ++ [(b : Int)])) (r := rows[b] ++ [(a : Int)]) (m := rows[b].length + 1) hb2 (by simp)
  have hne2 : ¬ 2 = ch 2 0 := by have := ch_gt 2 0; omega
  have B : FamIn AVal.i (lookupU ((2, ⟨0, 1, [.own (ch 2 0) 0 0 rows.length]⟩) :: (ch 2 0, ⟨0, 1, famC (ch 2 0) (fun _ => 0) rows⟩) :: famH (ch 2 0) (fun _ => 0) rows)) (ch 2 0) (fun _ => 0) rows := by
    simp +decide only [famS, famS2, famS3, hne2, ne_eq, not_false_eq_true]
  have F := fun (v : Option Blk) (G1 G2 : Nat) => (in_ne (f := AVal.i) (ν := ch 2 0) (ν' := 2) (j := 0) (v := v) hne2).trans (in_set (k := b) (g := G2) (r := rows[b] ++ [(a : Int)]) (of_eq_true (in_set (k := a) (g := G1) (r := rows[a] ++ [(b : Int)]) B ha)) hb2)
  refine denx_of_awpG (ghs [] [25, 32]) Try.func20 rfl (by kernel_rfl) (Nat.le_of_ble_eq_true rfl) (by simp +decide only [w_embA_nil, w_embA_cons, w_emb_v, w_emb_ol, w_emb_op, w_emb_agg, w_emb_tup, w_embL_nil, w_embL_cons, embL_i, List.map_cons, List.map_nil, List.nil_append, List.append_nil, List.cons_append, List.nodup_cons, List.nodup_nil, List.mem_cons, List.mem_nil_iff, List.not_mem_nil, ch_ch, ch_lit, lit_ch, Nat.reduceAdd, famS, famS2, famS3, len_mapC]) mixed (by kernel_rfl) fun hl => ?_
  simp only [xlensL, xlens, lensL, lens, lensL_i, lensL_mapC, xlensL_i, xlensL_rows, maxI, and_true, true_and] at hl
  rw [Try.ntmps20]
  refine ex_start ?_
  simp (config := { maxSteps := 1000000 }) +decide only [NoH, Old, OldL, nilQ, nilA, RechL, ReY, isNew, stepO, XPost, postN, XOk, updN, updU, isEff, avalue, aeff, ASt.eval, ASt.put, ASt.set, ASt.new, Nat.reduceDiv, Nat.reduceAdd, Int.reduceToNat, absV, absC, scalar, alen, acap, conc, flats, live, blkOf, aload, rd, part?, afieldAddr, afield, aindexAddr, cellsOf, afill, places, abuild, optI, asliceV, asliceS, szOk, srcCells, aappend, astore, amakeSlice, abuildSlice, snapL, mapO, treeL, AVal.tree, AVal.flatT, isFlat, ares, isFz, afroz, afrozB, lookupA, lookupH, tops, if_true, if_false, reduceCtorEq, forall_const, ite_true, ite_false, implies_true, walkS, tabS, Try.results20, famS, famS2, famS3, ha, hb, hne, hba, h8a, h8b, hneI, ga, gb, fa, fb, ua, ub, one0, List.replicate_succ, List.flatten_cons, List.flatten_nil, mapC_snoc, L1, L2, List.length_set, F, hne2]

end Go.Proofs.Ytlcijhpjbkekpaa
