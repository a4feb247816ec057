/-
  OWN WORK: codes in order.
-/
import Derived.Test.YtncbhafegccpmaaNbO
namespace Go.Proofs.Ytncbhafegccpmaa
open Go Go.Own Go.Proofs
set_option maxHeartbeats 4000000
set_option maxRecDepth 20000
set_option linter.unusedSimpArgs false
theorem nbr_symm {ls : List (List Int)} {i k : Int} : nbr ls i k ↔ nbr ls k i := ⟨fun h => h.symm, fun h => h.symm⟩
theorem shr_symm {ls : List (List Int)} {i k : Int} : shr ls i k ↔ shr ls k i := by
  constructor
  · rintro ⟨x, h1, h2, h3⟩
    exact ⟨x, h1, nbr_symm.1 h3, nbr_symm.1 h2⟩
  · rintro ⟨x, h1, h2, h3⟩
    exact ⟨x, h1, nbr_symm.1 h3, nbr_symm.1 h2⟩
theorem may_symm {ls : List (List Int)} {i k : Int} : may ls i k ↔ may ls k i := or_congr nbr_symm shr_symm
/-- the next item clashes with an earlier one -/
def clE (ls : List (List Int)) (cs : List Int) (n : Int) : Prop := ∃ (k : Nat) (h : k < cs.length), cs[k] = n ∧ may ls k cs.length
theorem clE_mem {ls : List (List Int)} {cs : List Int} {n : Int} (h : clE ls cs n) : n ∈ cs := by
  obtain ⟨k, hk, h1, _⟩ := h
  exact h1 ▸ List.getElem_mem hk
theorem pigeon : ∀ (c : Nat) (l : List Int), (∀ y : Nat, y < c → (y : Int) ∈ l) → c ≤ l.length
  | 0, _, _ => Nat.zero_le _
  | c + 1, l, h => by
    have hm := h c (by omega)
    have ih := pigeon c (l.erase (c : Int)) fun y hy => (List.mem_erase_of_ne (by omega)).2 (h y (by omega))
    have := List.length_erase_of_mem hm
    have := List.length_pos_of_mem hm
    omega
/-- the first free code -/
def isFc (ls : List (List Int)) (cs : List Int) (c : Nat) : Prop := ¬ clE ls cs c ∧ ∀ y : Nat, y < c → clE ls cs y
theorem fc_ex (ls : List (List Int)) (cs : List Int) : ∃ c, isFc ls cs c := by
  have key : ∀ f c : Nat, cs.length + 1 - c ≤ f → (∀ y : Nat, y < c → clE ls cs y) → ∃ c, isFc ls cs c := by
    intro f
    induction f with
    | zero =>
      intro c hf hc
      have := pigeon c cs fun y hy => clE_mem (hc y hy)
      omega
    | succ f ih =>
      intro c hf hc
      by_cases h : clE ls cs c
      · refine ih (c + 1) (by omega) fun y hy => ?_
        by_cases e : y = c
        · subst e; exact h
        · exact hc y (by omega)
      · exact ⟨c, h, hc⟩
  exact key _ 0 (Nat.le_refl _) fun y hy => absurd hy (Nat.not_lt_zero _)
noncomputable def fc (ls : List (List Int)) (cs : List Int) : Nat := Classical.choose (fc_ex ls cs)
theorem fc_is (ls : List (List Int)) (cs : List Int) : isFc ls cs (fc ls cs) := Classical.choose_spec (fc_ex ls cs)
theorem fc_eq {ls : List (List Int)} {cs : List Int} {c : Nat} (h : isFc ls cs c) : fc ls cs = c := by
  have h2 := fc_is ls cs
  rcases Nat.lt_trichotomy (fc ls cs) c with h3 | h3 | h3
  · exact (h2.1 (h.2 _ h3)).elim
  · exact h3
  · exact (h.1 (h2.2 _ h3)).elim
theorem fc_le (ls : List (List Int)) (cs : List Int) : fc ls cs ≤ cs.length := pigeon _ _ fun y hy => clE_mem ((fc_is ls cs).2 y hy)
noncomputable def asK (ls : List (List Int)) (many : Int) : Nat → Option (List Int)
  | 0 => some []
  | i + 1 => match asK ls many i with
    | some cs => if (fc ls cs : Int) < many then some (cs ++ [(fc ls cs : Int)]) else none
    | none => none
theorem asK_length {ls : List (List Int)} {many : Int} : ∀ {i : Nat} {cs : List Int}, asK ls many i = some cs → cs.length = i
  | 0, cs, h => by simp [asK] at h; subst h; rfl
  | i + 1, cs, h => by
    simp only [asK] at h
    split at h
    · rename_i cs' h'
      split at h
      · simp only [Option.some.injEq] at h
        subst h
        simp [asK_length h']
      · simp at h
    · simp at h
theorem asK_none {ls : List (List Int)} {many : Int} {i : Nat} (h : asK ls many i = none) : ∀ k, asK ls many (i + k) = none
  | 0 => h
  | k + 1 => by
    have ih := asK_none h k
    rw [show i + (k + 1) = i + k + 1 by omega, asK, ih]
theorem asK_yes {ls : List (List Int)} {many : Int} {i : Nat} {cs : List Int} (h : asK ls many i = some cs) (hf : (fc ls cs : Int) < many) : asK ls many (i + 1) = some (cs ++ [(fc ls cs : Int)]) := by
  rw [asK, h]
  simp only
  rw [if_pos hf]
theorem asK_no {ls : List (List Int)} {many : Int} {i n : Nat} {cs : List Int} (h : asK ls many i = some cs) (hf : ¬ (fc ls cs : Int) < many) (hn : i < n) : asK ls many n = none := by
  have h1 : asK ls many (i + 1) = none := by
    rw [asK, h]
    simp only
    rw [if_neg hf]
  have := asK_none h1 (n - (i + 1))
  rwa [show i + 1 + (n - (i + 1)) = n by omega] at this
noncomputable def asL (ls : List (List Int)) (many : Int) : List Int := if bp (OkLists ls ∧ ModOk many) then (asK ls many ls.length).getD [] else []
noncomputable def asC (ls : List (List Int)) (many : Int) : Int := if bp (OkLists ls) then (if bp (ModOk many) then (if (asK ls many ls.length).isSome then 0 else 3) else 2) else 1
section
variable {ls : List (List Int)} {many : Int}
theorem as_bad (h1 : ¬ OkLists ls) : asL ls many = [] ∧ asC ls many = 1 := by
  unfold asL asC
  rw [if_neg (by rw [bp_true]; exact fun h => h1 h.1), if_neg (by rw [bp_true]; exact h1)]
  exact ⟨rfl, rfl⟩
theorem as_mod (h1 : OkLists ls) (h2 : ¬ ModOk many) : asL ls many = [] ∧ asC ls many = 2 := by
  unfold asL asC
  rw [if_neg (by rw [bp_true]; exact fun h => h2 h.2), if_pos (by rw [bp_true]; exact h1), if_neg (by rw [bp_true]; exact h2)]
  exact ⟨rfl, rfl⟩
theorem as_no (h1 : OkLists ls) (h2 : ModOk many) (h3 : asK ls many ls.length = none) : asL ls many = [] ∧ asC ls many = 3 := by
  unfold asL asC
  rw [if_pos (by rw [bp_true]; exact ⟨h1, h2⟩), if_pos (by rw [bp_true]; exact h1), if_pos (by rw [bp_true]; exact h2), h3]
  exact ⟨rfl, rfl⟩
theorem as_yes {cs : List Int} (h1 : OkLists ls) (h2 : ModOk many) (h3 : asK ls many ls.length = some cs) : asL ls many = cs ∧ asC ls many = 0 := by
  unfold asL asC
  rw [if_pos (by rw [bp_true]; exact ⟨h1, h2⟩), if_pos (by rw [bp_true]; exact h1), if_pos (by rw [bp_true]; exact h2), h3]
  exact ⟨rfl, rfl⟩
theorem as_le (ls : List (List Int)) (many : Int) : (asL ls many).length ≤ 24 := by
  by_cases h1 : OkLists ls
  · by_cases h2 : ModOk many
    · cases h3 : asK ls many ls.length with
      | none => rw [(as_no h1 h2 h3).1]; simp
      | some cs =>
        rw [(as_yes h1 h2 h3).1]
        have := asK_length h3
        have := h1.1
        omega
    · rw [(as_mod h1 h2).1]; simp
  · rw [(as_bad h1).1]; simp
end
theorem den_l23Free (ls : List (List Int)) (cs : List Int) (c : Nat) (hi : cs.length < ls.length) (hc : ls.length ≤ 24) : Den Try.prog 86 [boolsV (barQ ls) ls.length, ints cs, .i c] (.b (bp (¬ clE ls cs c))) := by
  refine den_of_awp Try.func86 rfl (by kernel_rfl) (Nat.le_of_ble_eq_true rfl) (by simp only [treeL, tree_bools, tree_ints, tree_i, Bool.and_self]) rfl mixed (by kernel_rfl) fun _ => ?_
  rw [Try.ntmps86]
  refine ex_start ?_
  have hmt : treeL (mapC (lstC AVal.b) (matB (barQ ls) ls.length)) = true := by
    have := tree_bools (barQ ls) ls.length
    simpa only [AVal.tree] using this
  have r1 : cs.length < (matB (barQ ls) ls.length).length := by rw [matB_length]; exact hi
  have v1 := matB_get (barQ ls) ls.length cs.length hi
  simp (config := {decide := true, maxSteps := 1000000}) only [NoH, nilQ, nilA, RechL, ReY, isNew, stepO, XPost, postN, XOk, updN, updU, isEff, avalue, aeff, ASt.eval, ASt.put, ASt.set, ASt.new, Nat.reduceDiv, Nat.reduceAdd, Int.reduceToNat, absV, absC, scalar, alen, acap, conc, flats, live, blkOf, aload, rd, part?, afieldAddr, afield, aindexAddr, cellsOf, afill, places, abuild, optI, asliceV, asliceS, szOk, srcCells, aappend, astore, amakeSlice, abuildSlice, snapL, mapO, treeL, AVal.tree, AVal.flatT, isFlat, ares, isFz, afroz, afrozB, lookupA, lookupH, tops, if_true, if_false, reduceCtorEq, forall_const, ite_true, ite_false, implies_true, walkS, tabS, Try.results86, hmt]
  refine ex_loop (fun k : {k : Nat // k ≤ cs.length ∧ ∀ i (h : i < cs.length), i < k → ¬ (cs[i] = (c : Int) ∧ may ls i cs.length)} => mk [(0, boolsV (barQ ls) ls.length), (1, ints cs), (2, .i c), (7, .i cs.length), (8, .i k)] [] 0 31) (fun k => cs.length - k) ⟨0, by simp⟩ ?_ ?_
  · refine weak_mk rfl (by first | exact Nat.le_refl _ | (simp only [mk_gen]; omega)) ?_ ?_ <;> simp (config := {decide := true}) only [w_lookup_nil, w_lookup_cons, ch_ch, ch_lit, lit_ch, wkT, wkH, wkB, WVL, WV_refl', Int.natCast_zero, Int.natCast_add, Int.natCast_one, Nat.sub_self, Nat.sub_zero, List.replicate_zero, List.take_zero, List.nil_append, List.append_nil, fillC_zero, Nat.reduceDiv, Nat.reduceAdd, upd_bk, bk_at, getB_zero, getB_succ, modB_zero, modB_succ, rows_lit, repB_zero, repB_succ, List.length_cons, List.length_nil, upd_upd_same, upd_apply, mk_tmp, mk_heap, mk_gen, lookupA, lookupH, List.getD_cons_zero, List.getD_cons_succ, init_two, tops, Bool.true_and, and_self, and_true, true_and, true_or, if_true, if_false, ite_true, ite_false, reduceCtorEq, reduceIte, hmt]
  · rintro ⟨k, hk, hkk⟩
    by_cases hlt : k < cs.length
    · have hw : IntKind.i64.wrap ((k : Int) + 1) = ((k + 1 : Nat) : Int) := wrap64 (by omega) (by omega)
      have r2 : k < (rowB (barQ ls cs.length) ls.length).length := by rw [rowB_length]; omega
      have hkl : k < ls.length := by omega
      have v2 := rowB_get (barQ ls cs.length) ls.length k hkl
      have hbm := (bar_may (ls := ls) (a := cs.length) (b := k) (by omega)).trans may_symm
      have hm : cs.length - (k + 1) < cs.length - k := by omega
      have next : ¬ (cs[k] = (c : Int) ∧ may ls k cs.length) → ∀ i (h : i < cs.length), i < k + 1 → ¬ (cs[i] = (c : Int) ∧ may ls i cs.length) := fun h i hi' hik => by
        by_cases e : i = k
        · subst e; exact h
        · exact hkk i hi' (by omega)
      by_cases h1 : barQ ls cs.length k
      · by_cases h2 : cs[k] = (c : Int)
        · have hv : clE ls cs c := ⟨k, hlt, h2, hbm.1 h1⟩
          simp (config := {decide := true, maxSteps := 1000000}) only [NoH, nilQ, nilA, RechL, ReY, isNew, stepO, XPost, postN, XOk, updN, updU, isEff, avalue, aeff, ASt.eval, ASt.put, ASt.set, ASt.new, Nat.reduceDiv, Nat.reduceAdd, Int.reduceToNat, absV, absC, scalar, alen, acap, conc, flats, live, blkOf, aload, rd, part?, afieldAddr, afield, aindexAddr, cellsOf, afill, places, abuild, optI, asliceV, asliceS, szOk, srcCells, aappend, astore, amakeSlice, abuildSlice, snapL, mapO, treeL, AVal.tree, AVal.flatT, isFlat, ares, isFz, afroz, afrozB, lookupA, lookupH, tops, if_true, if_false, reduceCtorEq, forall_const, ite_true, ite_false, implies_true, walkS, tabS, Try.results86, hw, hlt, hi, hkl, hmt, matB_length, rowB_length, r1, r2, v1, v2, eq_true h1, eq_true h2, eq_true hv]
        · simp (config := {decide := true, maxSteps := 1000000}) only [NoH, nilQ, nilA, RechL, ReY, isNew, stepO, XPost, postN, XOk, updN, updU, isEff, avalue, aeff, ASt.eval, ASt.put, ASt.set, ASt.new, Nat.reduceDiv, Nat.reduceAdd, Int.reduceToNat, absV, absC, scalar, alen, acap, conc, flats, live, blkOf, aload, rd, part?, afieldAddr, afield, aindexAddr, cellsOf, afill, places, abuild, optI, asliceV, asliceS, szOk, srcCells, aappend, astore, amakeSlice, abuildSlice, snapL, mapO, treeL, AVal.tree, AVal.flatT, isFlat, ares, isFz, afroz, afrozB, lookupA, lookupH, tops, if_true, if_false, reduceCtorEq, forall_const, ite_true, ite_false, implies_true, walkS, tabS, Try.results86, hw, hlt, hi, hkl, hmt, matB_length, rowB_length, r1, r2, v1, v2, eq_true h1, eq_false h2]
          refine ⟨⟨k + 1, hlt, next fun h => h2 h.1⟩, ?_, hm⟩
          refine weak_mk rfl (by first | exact Nat.le_refl _ | (simp only [mk_gen]; omega)) ?_ ?_ <;> simp (config := {decide := true}) only [w_lookup_nil, w_lookup_cons, ch_ch, ch_lit, lit_ch, wkT, wkH, wkB, WVL, WV_refl', Int.natCast_zero, Int.natCast_add, Int.natCast_one, Nat.sub_self, Nat.sub_zero, List.replicate_zero, List.take_zero, List.nil_append, List.append_nil, fillC_zero, Nat.reduceDiv, Nat.reduceAdd, upd_bk, bk_at, getB_zero, getB_succ, modB_zero, modB_succ, rows_lit, repB_zero, repB_succ, List.length_cons, List.length_nil, upd_upd_same, upd_apply, mk_tmp, mk_heap, mk_gen, lookupA, lookupH, List.getD_cons_zero, List.getD_cons_succ, init_two, tops, Bool.true_and, and_self, and_true, true_and, true_or, if_true, if_false, ite_true, ite_false, reduceCtorEq, reduceIte, hmt]
      · simp (config := {decide := true, maxSteps := 1000000}) only [NoH, nilQ, nilA, RechL, ReY, isNew, stepO, XPost, postN, XOk, updN, updU, isEff, avalue, aeff, ASt.eval, ASt.put, ASt.set, ASt.new, Nat.reduceDiv, Nat.reduceAdd, Int.reduceToNat, absV, absC, scalar, alen, acap, conc, flats, live, blkOf, aload, rd, part?, afieldAddr, afield, aindexAddr, cellsOf, afill, places, abuild, optI, asliceV, asliceS, szOk, srcCells, aappend, astore, amakeSlice, abuildSlice, snapL, mapO, treeL, AVal.tree, AVal.flatT, isFlat, ares, isFz, afroz, afrozB, lookupA, lookupH, tops, if_true, if_false, reduceCtorEq, forall_const, ite_true, ite_false, implies_true, walkS, tabS, Try.results86, hw, hlt, hi, hkl, hmt, matB_length, rowB_length, r1, r2, v1, v2, eq_false h1]
        refine ⟨⟨k + 1, hlt, next fun h => h1 (hbm.2 h.2)⟩, ?_, hm⟩
        refine weak_mk rfl (by first | exact Nat.le_refl _ | (simp only [mk_gen]; omega)) ?_ ?_ <;> simp (config := {decide := true}) only [w_lookup_nil, w_lookup_cons, ch_ch, ch_lit, lit_ch, wkT, wkH, wkB, WVL, WV_refl', Int.natCast_zero, Int.natCast_add, Int.natCast_one, Nat.sub_self, Nat.sub_zero, List.replicate_zero, List.take_zero, List.nil_append, List.append_nil, fillC_zero, Nat.reduceDiv, Nat.reduceAdd, upd_bk, bk_at, getB_zero, getB_succ, modB_zero, modB_succ, rows_lit, repB_zero, repB_succ, List.length_cons, List.length_nil, upd_upd_same, upd_apply, mk_tmp, mk_heap, mk_gen, lookupA, lookupH, List.getD_cons_zero, List.getD_cons_succ, init_two, tops, Bool.true_and, and_self, and_true, true_and, true_or, if_true, if_false, ite_true, ite_false, reduceCtorEq, reduceIte, hmt]
    · have hv : ¬ clE ls cs c := fun ⟨i, h1, h2⟩ => hkk i h1 (by omega) h2
      simp (config := {decide := true, maxSteps := 1000000}) only [NoH, nilQ, nilA, RechL, ReY, isNew, stepO, XPost, postN, XOk, updN, updU, isEff, avalue, aeff, ASt.eval, ASt.put, ASt.set, ASt.new, Nat.reduceDiv, Nat.reduceAdd, Int.reduceToNat, absV, absC, scalar, alen, acap, conc, flats, live, blkOf, aload, rd, part?, afieldAddr, afield, aindexAddr, cellsOf, afill, places, abuild, optI, asliceV, asliceS, szOk, srcCells, aappend, astore, amakeSlice, abuildSlice, snapL, mapO, treeL, AVal.tree, AVal.flatT, isFlat, ares, isFz, afroz, afrozB, lookupA, lookupH, tops, if_true, if_false, reduceCtorEq, forall_const, ite_true, ite_false, implies_true, walkS, tabS, Try.results86, hlt, hmt, eq_false hv]
theorem den_specAssignCodes (ls : List (List Int)) (many : Int) : Den Try.prog 43 [intss ls, .i many] (.tup [ints (asL ls many), .i (asC ls many)]) := by
  refine den_of_awpG (ghs [] [37]) Try.func43 rfl (by kernel_rfl) (Nat.le_of_ble_eq_true rfl) (by simp only [treeL, AVal.tree, treeL_i, treeL_ints, treeL_append, Bool.and_self, Bool.and_true, Bool.true_and]) (by first | rfl | simp only [treeL, AVal.tree, treeL_i, treeL_ints, treeL_append, Bool.and_self, Bool.and_true, Bool.true_and]) mixed (by kernel_rfl) fun hl => ?_
  simp only [lensL, lens, lensL_i, lensL_mapC, maxI, and_true, true_and] at hl
  rw [Try.ntmps43]
  refine ex_start ?_
  by_cases h1 : OkLists ls
  case neg =>
    obtain ⟨e1, e2⟩ := as_bad (many := many) h1
    rw [e1, e2]
    simp (config := {decide := true, maxSteps := 1000000}) only [NoH, nilQ, nilA, RechL, ReY, isNew, stepO, XPost, postN, XOk, updN, updU, isEff, avalue, aeff, ASt.eval, ASt.put, ASt.set, ASt.new, Nat.reduceDiv, Nat.reduceAdd, Int.reduceToNat, absV, absC, scalar, alen, acap, conc, flats, live, blkOf, aload, rd, part?, afieldAddr, afield, aindexAddr, cellsOf, afill, places, abuild, optI, asliceV, asliceS, szOk, srcCells, aappend, astore, amakeSlice, abuildSlice, snapL, mapO, treeL, AVal.tree, AVal.flatT, isFlat, ares, isFz, afroz, afrozB, lookupA, lookupH, tops, if_true, if_false, reduceCtorEq, forall_const, ite_true, ite_false, implies_true, walkS, tabS, Try.results43]
    refine callK (den_l23Ok ls) (by first | exact .inl rfl | exact .inr rfl) ?_
    simp (config := {decide := true, maxSteps := 1000000}) only [NoH, nilQ, nilA, RechL, ReY, isNew, stepO, XPost, postN, XOk, updN, updU, isEff, avalue, aeff, ASt.eval, ASt.put, ASt.set, ASt.new, Nat.reduceDiv, Nat.reduceAdd, Int.reduceToNat, absV, absC, scalar, alen, acap, conc, flats, live, blkOf, aload, rd, part?, afieldAddr, afield, aindexAddr, cellsOf, afill, places, abuild, optI, asliceV, asliceS, szOk, srcCells, aappend, astore, amakeSlice, abuildSlice, snapL, mapO, treeL, AVal.tree, AVal.flatT, isFlat, ares, isFz, afroz, afrozB, lookupA, lookupH, tops, if_true, if_false, reduceCtorEq, forall_const, ite_true, ite_false, implies_true, walkS, tabS, Try.results43, h1, mapC_nil]
  have h24 := h1.1
  simp (config := {decide := true, maxSteps := 1000000}) only [NoH, nilQ, nilA, RechL, ReY, isNew, stepO, XPost, postN, XOk, updN, updU, isEff, avalue, aeff, ASt.eval, ASt.put, ASt.set, ASt.new, Nat.reduceDiv, Nat.reduceAdd, Int.reduceToNat, absV, absC, scalar, alen, acap, conc, flats, live, blkOf, aload, rd, part?, afieldAddr, afield, aindexAddr, cellsOf, afill, places, abuild, optI, asliceV, asliceS, szOk, srcCells, aappend, astore, amakeSlice, abuildSlice, snapL, mapO, treeL, AVal.tree, AVal.flatT, isFlat, ares, isFz, afroz, afrozB, lookupA, lookupH, tops, if_true, if_false, reduceCtorEq, forall_const, ite_true, ite_false, implies_true, walkS, tabS, Try.results43]
  refine callK (den_l23Ok ls) (by first | exact .inl rfl | exact .inr rfl) ?_
  simp (config := {decide := true, maxSteps := 1000000}) only [NoH, nilQ, nilA, RechL, ReY, isNew, stepO, XPost, postN, XOk, updN, updU, isEff, avalue, aeff, ASt.eval, ASt.put, ASt.set, ASt.new, Nat.reduceDiv, Nat.reduceAdd, Int.reduceToNat, absV, absC, scalar, alen, acap, conc, flats, live, blkOf, aload, rd, part?, afieldAddr, afield, aindexAddr, cellsOf, afill, places, abuild, optI, asliceV, asliceS, szOk, srcCells, aappend, astore, amakeSlice, abuildSlice, snapL, mapO, treeL, AVal.tree, AVal.flatT, isFlat, ares, isFz, afroz, afrozB, lookupA, lookupH, tops, if_true, if_false, reduceCtorEq, forall_const, ite_true, ite_false, implies_true, walkS, tabS, Try.results43, h1]
  refine callK (den_l00In many 1 1000) (by first | exact .inl rfl | exact .inr rfl) ?_
  by_cases h2 : ModOk many
  case neg =>
    obtain ⟨e1, e2⟩ := as_mod h1 h2
    rw [e1, e2]
    have h2' : ¬ (1 ≤ many ∧ many ≤ 1000) := h2
    simp (config := {decide := true, maxSteps := 1000000}) only [NoH, nilQ, nilA, RechL, ReY, isNew, stepO, XPost, postN, XOk, updN, updU, isEff, avalue, aeff, ASt.eval, ASt.put, ASt.set, ASt.new, Nat.reduceDiv, Nat.reduceAdd, Int.reduceToNat, absV, absC, scalar, alen, acap, conc, flats, live, blkOf, aload, rd, part?, afieldAddr, afield, aindexAddr, cellsOf, afill, places, abuild, optI, asliceV, asliceS, szOk, srcCells, aappend, astore, amakeSlice, abuildSlice, snapL, mapO, treeL, AVal.tree, AVal.flatT, isFlat, ares, isFz, afroz, afrozB, lookupA, lookupH, tops, if_true, if_false, reduceCtorEq, forall_const, ite_true, ite_false, implies_true, walkS, tabS, Try.results43, eq_false h2', mapC_nil]
  have h2' : 1 ≤ many ∧ many ≤ 1000 := h2
  simp (config := {decide := true, maxSteps := 1000000}) only [NoH, nilQ, nilA, RechL, ReY, isNew, stepO, XPost, postN, XOk, updN, updU, isEff, avalue, aeff, ASt.eval, ASt.put, ASt.set, ASt.new, Nat.reduceDiv, Nat.reduceAdd, Int.reduceToNat, absV, absC, scalar, alen, acap, conc, flats, live, blkOf, aload, rd, part?, afieldAddr, afield, aindexAddr, cellsOf, afill, places, abuild, optI, asliceV, asliceS, szOk, srcCells, aappend, astore, amakeSlice, abuildSlice, snapL, mapO, treeL, AVal.tree, AVal.flatT, isFlat, ares, isFz, afroz, afrozB, lookupA, lookupH, tops, if_true, if_false, reduceCtorEq, forall_const, ite_true, ite_false, implies_true, walkS, tabS, Try.results43, h2']
  refine callK (den_l23Bars ls h1) (by first | exact .inl rfl | exact .inr rfl) ?_
  have hmt : treeL (mapC (lstC AVal.b) (matB (barQ ls) ls.length)) = true := by
    have := tree_bools (barQ ls) ls.length
    simpa only [AVal.tree] using this
  simp (config := {decide := true, maxSteps := 1000000}) only [NoH, nilQ, nilA, RechL, ReY, isNew, stepO, XPost, postN, XOk, updN, updU, isEff, avalue, aeff, ASt.eval, ASt.put, ASt.set, ASt.new, Nat.reduceDiv, Nat.reduceAdd, Int.reduceToNat, absV, absC, scalar, alen, acap, conc, flats, live, blkOf, aload, rd, part?, afieldAddr, afield, aindexAddr, cellsOf, afill, places, abuild, optI, asliceV, asliceS, szOk, srcCells, aappend, astore, amakeSlice, abuildSlice, snapL, mapO, treeL, AVal.tree, AVal.flatT, isFlat, ares, isFz, afroz, afrozB, lookupA, lookupH, tops, if_true, if_false, reduceCtorEq, forall_const, ite_true, ite_false, implies_true, walkS, tabS, Try.results43, hmt]
  refine ex_loop (fun p : {p : Nat × Nat × Nat × List Int // p.1 ≤ ls.length ∧ asK ls many p.1 = some p.2.2.2} => mkG (ghs [] [37]) [(0, intss ls), (1, .i many), (6, boolsV (barQ ls) ls.length), (7, .own 18 p.1.2.1 0 p.1.1), (8, .i p.1.1)] [(18, ⟨p.1.2.1, 1, mapC AVal.i p.1.2.2.2⟩)] p.1.2.2.1 40) (fun p => ls.length - p.1.1) ⟨(0, 0, 1, []), by simp, rfl⟩ ?_ ?_
  · refine weak_mk rfl (by first | exact Nat.le_refl _ | (simp only [mk_gen]; omega)) ?_ ?_ <;> simp (config := {decide := true}) only [w_lookup_nil, w_lookup_cons, ch_ch, ch_lit, lit_ch, wkT, wkH, wkB, WVL, WV_refl', Int.natCast_zero, Int.natCast_add, Int.natCast_one, Nat.sub_self, Nat.sub_zero, List.replicate_zero, List.take_zero, List.nil_append, List.append_nil, fillC_zero, Nat.reduceDiv, Nat.reduceAdd, upd_bk, bk_at, getB_zero, getB_succ, modB_zero, modB_succ, rows_lit, repB_zero, repB_succ, List.length_cons, List.length_nil, upd_upd_same, upd_apply, mk_tmp, mk_heap, mk_gen, lookupA, lookupH, List.getD_cons_zero, List.getD_cons_succ, init_two, tops, Bool.true_and, and_self, and_true, true_and, true_or, if_true, if_false, ite_true, ite_false, reduceCtorEq, reduceIte, mapC_nil, hmt]
  · rintro ⟨⟨i, g, G, cs⟩, hi, hk⟩
    have hi' : i ≤ ls.length := hi
    have hk' : asK ls many i = some cs := hk
    have hcl := asK_length hk'
    subst hcl
    by_cases ilt : cs.length < ls.length
    · have hw : IntKind.i64.wrap ((cs.length : Int) + 1) = ((cs.length + 1 : Nat) : Int) := wrap64 (by omega) (by omega)
      simp (config := {decide := true, maxSteps := 1000000}) only [NoH, nilQ, nilA, RechL, ReY, isNew, stepO, XPost, postN, XOk, updN, updU, isEff, avalue, aeff, ASt.eval, ASt.put, ASt.set, ASt.new, Nat.reduceDiv, Nat.reduceAdd, Int.reduceToNat, absV, absC, scalar, alen, acap, conc, flats, live, blkOf, aload, rd, part?, afieldAddr, afield, aindexAddr, cellsOf, afill, places, abuild, optI, asliceV, asliceS, szOk, srcCells, aappend, astore, amakeSlice, abuildSlice, snapL, mapO, treeL, AVal.tree, AVal.flatT, isFlat, ares, isFz, afroz, afrozB, lookupA, lookupH, tops, if_true, if_false, reduceCtorEq, forall_const, ite_true, ite_false, implies_true, walkS, tabS, Try.results43, ilt, hmt]
      refine ex_loop (fun c : {c : Nat // ∀ y : Nat, y < c → clE ls cs y} => mkG (ghs [] [37]) [(0, intss ls), (1, .i many), (6, boolsV (barQ ls) ls.length), (7, .own 18 g 0 cs.length), (8, .i cs.length), (9, .i c)] [(18, ⟨g, 1, mapC AVal.i cs⟩)] G 40) (fun c => cs.length + 1 - c) ⟨0, by simp⟩ ?_ ?_
      · refine weak_mk rfl (by first | exact Nat.le_refl _ | (simp only [mk_gen]; omega)) ?_ ?_ <;> simp (config := {decide := true}) only [w_lookup_nil, w_lookup_cons, ch_ch, ch_lit, lit_ch, wkT, wkH, wkB, WVL, WV_refl', Int.natCast_zero, Int.natCast_add, Int.natCast_one, Nat.sub_self, Nat.sub_zero, List.replicate_zero, List.take_zero, List.nil_append, List.append_nil, fillC_zero, Nat.reduceDiv, Nat.reduceAdd, upd_bk, bk_at, getB_zero, getB_succ, modB_zero, modB_succ, rows_lit, repB_zero, repB_succ, List.length_cons, List.length_nil, upd_upd_same, upd_apply, mk_tmp, mk_heap, mk_gen, lookupA, lookupH, List.getD_cons_zero, List.getD_cons_succ, init_two, tops, Bool.true_and, and_self, and_true, true_and, true_or, if_true, if_false, ite_true, ite_false, reduceCtorEq, reduceIte, hmt]
      · rintro ⟨c, hc⟩
        have hcn : c ≤ cs.length := pigeon c cs fun y hy => clE_mem (hc y hy)
        have hwc : IntKind.i64.wrap ((c : Int) + 1) = ((c + 1 : Nat) : Int) := wrap64 (by omega) (by omega)
        simp (config := {decide := true, maxSteps := 1000000}) only [NoH, nilQ, nilA, RechL, ReY, isNew, stepO, XPost, postN, XOk, updN, updU, isEff, avalue, aeff, ASt.eval, ASt.put, ASt.set, ASt.new, Nat.reduceDiv, Nat.reduceAdd, Int.reduceToNat, absV, absC, scalar, alen, acap, conc, flats, live, blkOf, aload, rd, part?, afieldAddr, afield, aindexAddr, cellsOf, afill, places, abuild, optI, asliceV, asliceS, szOk, srcCells, aappend, astore, amakeSlice, abuildSlice, snapL, mapO, treeL, AVal.tree, AVal.flatT, isFlat, ares, isFz, afroz, afrozB, lookupA, lookupH, tops, if_true, if_false, reduceCtorEq, forall_const, ite_true, ite_false, implies_true, walkS, tabS, Try.results43, hmt]
        refine callK (den_l23Free ls cs c ilt h24) (by first | exact .inl rfl | exact .inr rfl) ?_
        by_cases hf : clE ls cs c
        · simp (config := {decide := true, maxSteps := 1000000}) only [NoH, nilQ, nilA, RechL, ReY, isNew, stepO, XPost, postN, XOk, updN, updU, isEff, avalue, aeff, ASt.eval, ASt.put, ASt.set, ASt.new, Nat.reduceDiv, Nat.reduceAdd, Int.reduceToNat, absV, absC, scalar, alen, acap, conc, flats, live, blkOf, aload, rd, part?, afieldAddr, afield, aindexAddr, cellsOf, afill, places, abuild, optI, asliceV, asliceS, szOk, srcCells, aappend, astore, amakeSlice, abuildSlice, snapL, mapO, treeL, AVal.tree, AVal.flatT, isFlat, ares, isFz, afroz, afrozB, lookupA, lookupH, tops, if_true, if_false, reduceCtorEq, forall_const, ite_true, ite_false, implies_true, walkS, tabS, Try.results43, hwc, eq_true hf]
          refine ⟨⟨c + 1, fun y hy => ?_⟩, ?_, by show _ - (c + 1) < _ - c; omega⟩
          · by_cases e : y = c
            · subst e; exact hf
            · exact hc y (by omega)
          · refine weak_mk rfl (by first | exact Nat.le_refl _ | (simp only [mk_gen]; omega)) ?_ ?_ <;> simp (config := {decide := true}) only [w_lookup_nil, w_lookup_cons, ch_ch, ch_lit, lit_ch, wkT, wkH, wkB, WVL, WV_refl', Int.natCast_zero, Int.natCast_add, Int.natCast_one, Nat.sub_self, Nat.sub_zero, List.replicate_zero, List.take_zero, List.nil_append, List.append_nil, fillC_zero, Nat.reduceDiv, Nat.reduceAdd, upd_bk, bk_at, getB_zero, getB_succ, modB_zero, modB_succ, rows_lit, repB_zero, repB_succ, List.length_cons, List.length_nil, upd_upd_same, upd_apply, mk_tmp, mk_heap, mk_gen, lookupA, lookupH, List.getD_cons_zero, List.getD_cons_succ, init_two, tops, Bool.true_and, and_self, and_true, true_and, true_or, if_true, if_false, ite_true, ite_false, reduceCtorEq, reduceIte, hmt]
        · have ef : fc ls cs = c := fc_eq ⟨hf, hc⟩
          by_cases hm : (c : Int) < many
          · have hm' : ¬ many ≤ (c : Int) := by omega
            have h8 : (cs.length + 1) * 8 ≤ 140737488355328 := by omega
            have hy := asK_yes hk' (by rw [ef]; exact hm)
            rw [ef] at hy
            simp (config := {decide := true, maxSteps := 1000000}) only [NoH, nilQ, nilA, RechL, ReY, isNew, stepO, XPost, postN, XOk, updN, updU, isEff, avalue, aeff, ASt.eval, ASt.put, ASt.set, ASt.new, Nat.reduceDiv, Nat.reduceAdd, Int.reduceToNat, absV, absC, scalar, alen, acap, conc, flats, live, blkOf, aload, rd, part?, afieldAddr, afield, aindexAddr, cellsOf, afill, places, abuild, optI, asliceV, asliceS, szOk, srcCells, aappend, astore, amakeSlice, abuildSlice, snapL, mapO, treeL, AVal.tree, AVal.flatT, isFlat, ares, isFz, afroz, afrozB, lookupA, lookupH, tops, if_true, if_false, reduceCtorEq, forall_const, ite_true, ite_false, implies_true, walkS, tabS, Try.results43, hw, h8, eq_false hf, hm', List.replicate_succ, List.flatten_cons, List.flatten_nil, mapC_snoc]
            refine ⟨⟨(cs.length + 1, G, G + 1, cs ++ [(c : Int)]), ilt, hy⟩, ?_, by show _ - (cs.length + 1) < _ - cs.length; omega⟩
            refine weak_mk rfl (by first | exact Nat.le_refl _ | (simp only [mk_gen]; omega)) ?_ ?_ <;> simp (config := {decide := true}) only [w_lookup_nil, w_lookup_cons, ch_ch, ch_lit, lit_ch, wkT, wkH, wkB, WVL, WV_refl', Int.natCast_zero, Int.natCast_add, Int.natCast_one, Nat.sub_self, Nat.sub_zero, List.replicate_zero, List.take_zero, List.nil_append, List.append_nil, fillC_zero, Nat.reduceDiv, Nat.reduceAdd, upd_bk, bk_at, getB_zero, getB_succ, modB_zero, modB_succ, rows_lit, repB_zero, repB_succ, List.length_cons, List.length_nil, upd_upd_same, upd_apply, mk_tmp, mk_heap, mk_gen, lookupA, lookupH, List.getD_cons_zero, List.getD_cons_succ, init_two, tops, Bool.true_and, and_self, and_true, true_and, true_or, if_true, if_false, ite_true, ite_false, reduceCtorEq, reduceIte, hmt, List.length_append, List.length_cons, List.length_nil, Nat.zero_add]
          · have hm' : many ≤ (c : Int) := by omega
            have hn := asK_no hk' (by rw [ef]; exact hm) ilt
            obtain ⟨e1, e2⟩ := as_no h1 h2 hn
            rw [e1, e2]
            simp (config := {decide := true, maxSteps := 1000000}) only [NoH, nilQ, nilA, RechL, ReY, isNew, stepO, XPost, postN, XOk, updN, updU, isEff, avalue, aeff, ASt.eval, ASt.put, ASt.set, ASt.new, Nat.reduceDiv, Nat.reduceAdd, Int.reduceToNat, absV, absC, scalar, alen, acap, conc, flats, live, blkOf, aload, rd, part?, afieldAddr, afield, aindexAddr, cellsOf, afill, places, abuild, optI, asliceV, asliceS, szOk, srcCells, aappend, astore, amakeSlice, abuildSlice, snapL, mapO, treeL, AVal.tree, AVal.flatT, isFlat, ares, isFz, afroz, afrozB, lookupA, lookupH, tops, if_true, if_false, reduceCtorEq, forall_const, ite_true, ite_false, implies_true, walkS, tabS, Try.results43, eq_false hf, hm', mapC_nil]
    · have e : cs.length = ls.length := by omega
      obtain ⟨e1, e2⟩ := as_yes h1 h2 (e ▸ hk')
      rw [e1, e2]
      have htk : List.take ls.length cs = cs := List.take_of_length_le (by omega)
      simp (config := {decide := true, maxSteps := 1000000}) only [NoH, nilQ, nilA, RechL, ReY, isNew, stepO, XPost, postN, XOk, updN, updU, isEff, avalue, aeff, ASt.eval, ASt.put, ASt.set, ASt.new, Nat.reduceDiv, Nat.reduceAdd, Int.reduceToNat, absV, absC, scalar, alen, acap, conc, flats, live, blkOf, aload, rd, part?, afieldAddr, afield, aindexAddr, cellsOf, afill, places, abuild, optI, asliceV, asliceS, szOk, srcCells, aappend, astore, amakeSlice, abuildSlice, snapL, mapO, treeL, AVal.tree, AVal.flatT, isFlat, ares, isFz, afroz, afrozB, lookupA, lookupH, tops, if_true, if_false, reduceCtorEq, forall_const, ite_true, ite_false, implies_true, walkS, tabS, Try.results43, ilt, hmt, e, htk]
end Go.Proofs.Ytncbhafegccpmaa
