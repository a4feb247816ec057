/-
  OWN WORK: tables of neighbours; the reference's side.
-/
import Derived.Test.YtncbhafegccpmaaNbE
namespace Go.Proofs.Ytncbhafegccpmaa
open Go Go.Own Go.Proofs
set_option maxHeartbeats 4000000
set_option maxRecDepth 20000
set_option linter.unusedSimpArgs false
noncomputable def rowB (p : Int → Prop) (n : Nat) : List Bool := (List.range n).map fun (k : Nat) => bp (p k)
noncomputable def matB (q : Int → Int → Prop) (n : Nat) : List (List Bool) := (List.range n).map fun (i : Nat) => rowB (q i) n
theorem rowB_length (p : Int → Prop) (n : Nat) : (rowB p n).length = n := by simp [rowB]
theorem matB_length (q : Int → Int → Prop) (n : Nat) : (matB q n).length = n := by simp [matB]
theorem rowB_get (p : Int → Prop) (n k : Nat) (h : k < n) : (rowB p n)[k]'(by rw [rowB_length]; exact h) = bp (p k) := by simp [rowB]
theorem matB_get (q : Int → Int → Prop) (n i : Nat) (h : i < n) : (matB q n)[i]'(by rw [matB_length]; exact h) = rowB (q i) n := by simp [matB]
theorem rowB_congr {p p' : Int → Prop} {n : Nat} (h : ∀ k : Nat, k < n → (p k ↔ p' k)) : rowB p n = rowB p' n := by
  unfold rowB
  refine List.map_congr_left fun k hk => ?_
  exact bp_congr (h k (List.mem_range.1 hk))
theorem matB_congr {q q' : Int → Int → Prop} {n : Nat} (h : ∀ i k : Nat, i < n → k < n → (q i k ↔ q' i k)) : matB q n = matB q' n := by
  unfold matB
  refine List.map_congr_left fun i hi => ?_
  exact rowB_congr fun k hk => h i k (List.mem_range.1 hi) hk
theorem rowB_set (p : Int → Prop) (n m : Nat) : (rowB p n).set m true = rowB (fun y => p y ∨ y = m) n := by
  apply List.ext_getElem
  · simp [rowB_length]
  · intro i h1 h2
    have hi : i < n := by rw [rowB_length] at h2; exact h2
    rw [List.getElem_set, rowB_get _ _ _ hi]
    split
    · rename_i e
      subst e
      rw [rowB_get _ _ _ hi]
      symm
      rw [bp_true]
      exact Or.inr rfl
    · rename_i e
      rw [rowB_get _ _ _ hi]
      exact bp_congr ⟨.inl, fun h => h.resolve_right (by omega)⟩
theorem rep_b (n : Nat) (x : Bool) : List.replicate n (AVal.flat (.bool x)) = mapC AVal.b (List.replicate n x) := by simp [mapC]
theorem matB_false (n : Nat) : List.replicate n (List.replicate n false) = matB (fun _ _ => False) n := by
  have e : rowB (fun _ => False) n = List.replicate n false := by
    apply List.ext_getElem
    · simp [rowB_length]
    · intro i h1 h2
      have hi : i < n := by simpa using h2
      rw [rowB_get _ _ _ hi]
      simp [bp_false]
  apply List.ext_getElem
  · simp [matB_length]
  · intro i h1 h2
    have hi : i < n := by rw [matB_length] at h2; exact h2
    rw [matB_get _ _ _ hi, e]
    simp
/-- told by the first rows -/
def told (ls : List (List Int)) (i : Nat) (a b : Int) : Prop := ∃ (x : Nat) (hx : x < ls.length), x < i ∧ ((a = x ∧ b ∈ ls[x]) ∨ (b = x ∧ a ∈ ls[x]))
/-- and by the beginning of a further one -/
def toldJ (ls : List (List Int)) (i : Nat) (row : List Int) (a b : Int) : Prop := told ls i a b ∨ (a = i ∧ b ∈ row) ∨ (b = i ∧ a ∈ row)
theorem told_all {ls : List (List Int)} {a b : Nat} (ha : a < ls.length) (hb : b < ls.length) : told ls ls.length a b ↔ nbr ls a b := by
  rw [nbr_nat ha hb]
  constructor
  · rintro ⟨x, hx, _, h | h⟩
    · have : x = a := by omega
      subst this
      exact .inl h.2
    · have : x = b := by omega
      subst this
      exact .inr h.2
  · rintro (h | h)
    · exact ⟨a, ha, ha, .inl ⟨rfl, h⟩⟩
    · exact ⟨b, hb, hb, .inr ⟨rfl, h⟩⟩
theorem told_succ {ls : List (List Int)} {i : Nat} (hi : i < ls.length) (a b : Int) : told ls (i + 1) a b ↔ toldJ ls i ls[i] a b := by
  constructor
  · rintro ⟨x, hx, h1, h2⟩
    by_cases e : x = i
    · subst e; exact .inr h2
    · exact .inl ⟨x, hx, by omega, h2⟩
  · rintro (⟨x, hx, h1, h2⟩ | h)
    · exact ⟨x, hx, by omega, h2⟩
    · exact ⟨i, hi, by omega, h⟩
theorem told_zero {ls : List (List Int)} (a b : Int) : told ls 0 a b ↔ False := ⟨fun ⟨_, _, h, _⟩ => by omega, False.elim⟩
theorem toldJ_nil {ls : List (List Int)} {i : Nat} (a b : Int) : toldJ ls i [] a b ↔ told ls i a b := by simp [toldJ]
theorem toldJ_snoc {ls : List (List Int)} {i : Nat} {row : List Int} {m : Int} (a b : Int) : toldJ ls i (row ++ [m]) a b ↔ toldJ ls i row a b ∨ (a = i ∧ b = m) ∨ (b = i ∧ a = m) := by
  simp only [toldJ, List.mem_append, List.mem_singleton]
  constructor
  · rintro (h | ⟨h1, h2 | h2⟩ | ⟨h1, h2 | h2⟩) <;> simp [*]
  · rintro ((h | h | h) | h | h) <;> simp [*]
theorem fam_allf {α : Type} {f : α → AVal} {s s' : ASt} {ν G : Nat} {gs : Nat → Nat} {ls : List (List α)} (h : ∀ j (hj : j < ls.length), s.heap (ch ν j) = some ⟨gs j, 1, mapC f ls[j]⟩) : wkH s s' G (famHf f ν gs ls) := by
  rw [wkH_fam]
  intro j hj
  rw [h j hj]
  exact ⟨rfl, rfl, .inl rfl⟩
theorem famC_matB {ν : Nat} {gs : Nat → Nat} (q q' : Int → Int → Prop) (n : Nat) : famC ν gs (matB q n) = famC ν gs (matB q' n) := by
  apply List.ext_getElem?
  intro i
  by_cases hi : i < n
  · rw [get_famC (show i < (matB q n).length by rw [matB_length]; exact hi), get_famC (show i < (matB q' n).length by rw [matB_length]; exact hi), matB_get q n i hi, matB_get q' n i hi, rowB_length, rowB_length]
  · rw [List.getElem?_eq_none (by rw [len_famC, matB_length]; omega), List.getElem?_eq_none (by rw [len_famC, matB_length]; omega)]
theorem mat_at {ν : Nat} {gs : Nat → Nat} {q : Int → Int → Prop} {n i : Nat} (hi : i < n) : lookupH (famHf AVal.b ν gs (matB q n)) (ch ν i) = some ⟨gs i, 1, mapC AVal.b (rowB (q i) n)⟩ := by
  rw [famH_at (show i < (matB q n).length by rw [matB_length]; exact hi), matB_get q n i hi]
theorem mat_get {ν : Nat} {gs : Nat → Nat} {q : Int → Int → Prop} {n i : Nat} (hi : i < n) : (famC ν gs (matB q n))[i]? = some (.own (ch ν i) (gs i) 0 n) := by
  rw [get_famC (show i < (matB q n).length by rw [matB_length]; exact hi), matB_get q n i hi, rowB_length]
noncomputable abbrev boolsV (q : Int → Int → Prop) (n : Nat) : AVal := .lst (mapC (lstC AVal.b) (matB q n)) n
theorem den_l23Table (ls : List (List Int)) (hok : OkLists ls) : Den Try.prog 53 [intss ls] (boolsV (nbr ls) ls.length) := by
  refine den_of_awpG (ghs [(18, ch 8 0)] [19]) Try.func53 rfl (by kernel_rfl) (Nat.le_of_ble_eq_true rfl) (by simp only [treeL, AVal.tree, treeL_i, treeL_ints, Bool.and_self, Bool.and_true]) (by simp only [AVal.tree]; exact treeL_mapC _ _ fun l => by simp only [lstC, AVal.tree]; exact treeL_mapC _ _ fun _ => rfl) mixed (by kernel_rfl) fun hl => ?_
  simp only [lensL, lens, lensL_i, lensL_mapC, maxI, and_true, true_and] at hl
  rw [Try.ntmps53]
  refine ex_start ?_
  have h24 := hok.1
  have h8 : (ls.length : Int) * ((1 : Nat) : Int) ≤ 281474976710656 := by omega
  have h63 : (ls.length : Int) ≤ 9223372036854775807 := by omega
  simp (config := {decide := true, maxSteps := 1000000}) only [NoH, nilQ, nilA, RechL, ReY, isNew, stepO, XPost, postN, XOk, updN, updU, isEff, avalue, aeff, ASt.eval, ASt.put, ASt.set, ASt.new, Nat.reduceDiv, Nat.reduceAdd, Int.reduceToNat, absV, absC, scalar, alen, acap, conc, flats, live, blkOf, aload, rd, part?, afieldAddr, afield, aindexAddr, cellsOf, afill, places, abuild, optI, asliceV, asliceS, szOk, srcCells, aappend, astore, amakeSlice, abuildSlice, snapL, mapO, treeL, AVal.tree, AVal.flatT, isFlat, ares, isFz, afroz, afrozB, lookupA, lookupH, tops, if_true, if_false, reduceCtorEq, forall_const, ite_true, ite_false, implies_true, walkS, tabS, Try.results53]
  refine ex_loop (fun p : {p : Nat × Nat × Nat × (Nat → Nat) // p.1 ≤ ls.length} => mkG (ghs [(18, ch 8 p.1.1)] [19]) [(0, intss ls), (3, .own 8 p.1.2.1 0 p.1.1), (4, .i p.1.1)] ((8, ⟨p.1.2.1, 1, famC 8 p.1.2.2.2 (List.replicate p.1.1 (List.replicate ls.length false))⟩) :: famHf AVal.b 8 p.1.2.2.2 (List.replicate p.1.1 (List.replicate ls.length false))) p.1.2.2.1 56) (fun p => ls.length - p.1.1) ⟨(0, 0, 1, fun _ => 0), by simp⟩ ?_ ?_
  · refine weak_mk rfl (by first | exact Nat.le_refl _ | (simp only [mk_gen]; omega)) ?_ ?_ <;> simp (config := {decide := true}) only [w_lookup_nil, w_lookup_cons, ch_ch, ch_lit, lit_ch, wkT, wkH, wkB, WVL, WV_refl', Int.natCast_zero, Int.natCast_add, Int.natCast_one, Nat.sub_self, Nat.sub_zero, List.replicate_zero, List.take_zero, List.nil_append, List.append_nil, fillC_zero, Nat.reduceDiv, Nat.reduceAdd, upd_bk, bk_at, getB_zero, getB_succ, modB_zero, modB_succ, rows_lit, repB_zero, repB_succ, List.length_cons, List.length_nil, upd_upd_same, upd_apply, mk_tmp, mk_heap, mk_gen, lookupA, lookupH, List.getD_cons_zero, List.getD_cons_succ, init_two, tops, Bool.true_and, and_self, and_true, true_and, true_or, if_true, if_false, ite_true, ite_false, reduceCtorEq, reduceIte, famC_nil, famH_nil, List.length_nil, List.flatten_nil]
  · rintro ⟨⟨k, g, G, gs⟩, hk⟩
    have hk' : k ≤ ls.length := hk
    by_cases hlt : k < ls.length
    · have hw : IntKind.i64.wrap ((k : Int) + 1) = ((k + 1 : Nat) : Int) := wrap64 (by omega) (by omega)
      have h9 : (k + 1) * 24 ≤ 140737488355328 := by omega
      simp (config := {decide := true, maxSteps := 1000000}) only [NoH, nilQ, nilA, RechL, ReY, isNew, stepO, XPost, postN, XOk, updN, updU, isEff, avalue, aeff, ASt.eval, ASt.put, ASt.set, ASt.new, Nat.reduceDiv, Nat.reduceAdd, Int.reduceToNat, absV, absC, scalar, alen, acap, conc, flats, live, blkOf, aload, rd, part?, afieldAddr, afield, aindexAddr, cellsOf, afill, places, abuild, optI, asliceV, asliceS, szOk, srcCells, aappend, astore, amakeSlice, abuildSlice, snapL, mapO, treeL, AVal.tree, AVal.flatT, isFlat, ares, isFz, afroz, afrozB, lookupA, lookupH, tops, if_true, if_false, reduceCtorEq, forall_const, ite_true, ite_false, implies_true, walkS, tabS, Try.results53, hw, hlt, h8, h63, h9, rep_b, List.replicate_succ, List.flatten_cons, List.flatten_nil, famS, famS2, famS3]
      refine ⟨⟨(k + 1, G + 1, G + 2, upd gs k G), hlt⟩, ?_, by show _ - (k + 1) < _ - k; omega⟩
      have er : List.replicate (k + 1) (List.replicate ls.length false) = List.replicate k (List.replicate ls.length false) ++ [List.replicate ls.length false] := List.replicate_succ' ..
      have ec := famC_snoc (ν := 8) (gs := gs) (ls := List.replicate k (List.replicate ls.length false)) (List.replicate ls.length false) G
      simp only [List.length_replicate] at ec
      refine weak_mk rfl (by first | exact Nat.le_refl _ | (simp only [mk_gen]; omega)) ?_ ?_ <;> simp (config := {decide := true}) only [w_lookup_nil, w_lookup_cons, ch_ch, ch_lit, lit_ch, wkT, wkH, wkB, WVL, WV_refl', Int.natCast_zero, Int.natCast_add, Int.natCast_one, Nat.sub_self, Nat.sub_zero, List.replicate_zero, List.take_zero, List.nil_append, List.append_nil, fillC_zero, Nat.reduceDiv, Nat.reduceAdd, upd_bk, bk_at, getB_zero, getB_succ, modB_zero, modB_succ, rows_lit, repB_zero, repB_succ, List.length_cons, List.length_nil, upd_upd_same, upd_apply, mk_tmp, mk_heap, mk_gen, lookupA, lookupH, List.getD_cons_zero, List.getD_cons_succ, init_two, tops, Bool.true_and, and_self, and_true, true_and, true_or, if_true, if_false, ite_true, ite_false, reduceCtorEq, reduceIte, er, ec]
      refine fam_allf fun j hj => ?_
      have hj2 : j < k + 1 := by simpa using hj
      have e7 : (List.replicate k (List.replicate ls.length false) ++ [List.replicate ls.length false])[j] = List.replicate ls.length false := by
        rw [List.getElem_append]
        split <;> simp
      by_cases ej : j = k
      · subst ej
        have e5 : upd gs j G j = G := by simp [upd]
        simp (config := {decide := true, maxSteps := 1000000}) only [NoH, nilQ, nilA, RechL, ReY, isNew, stepO, XPost, postN, XOk, updN, updU, isEff, avalue, aeff, ASt.eval, ASt.put, ASt.set, ASt.new, Nat.reduceDiv, Nat.reduceAdd, Int.reduceToNat, absV, absC, scalar, alen, acap, conc, flats, live, blkOf, aload, rd, part?, afieldAddr, afield, aindexAddr, cellsOf, afill, places, abuild, optI, asliceV, asliceS, szOk, srcCells, aappend, astore, amakeSlice, abuildSlice, snapL, mapO, treeL, AVal.tree, AVal.flatT, isFlat, ares, isFz, afroz, afrozB, lookupA, lookupH, tops, if_true, if_false, reduceCtorEq, forall_const, ite_true, ite_false, implies_true, walkS, tabS, Try.results53, e5, e7]
      · have hj3 : j < (List.replicate k (List.replicate ls.length false)).length := by simp; omega
        have e5 : upd gs k G j = gs j := by simp [upd, ej]
        have e6 := famH_at (f := AVal.b) (ν := 8) (gs := gs) hj3
        simp (config := {decide := true, maxSteps := 1000000}) only [NoH, nilQ, nilA, RechL, ReY, isNew, stepO, XPost, postN, XOk, updN, updU, isEff, avalue, aeff, ASt.eval, ASt.put, ASt.set, ASt.new, Nat.reduceDiv, Nat.reduceAdd, Int.reduceToNat, absV, absC, scalar, alen, acap, conc, flats, live, blkOf, aload, rd, part?, afieldAddr, afield, aindexAddr, cellsOf, afill, places, abuild, optI, asliceV, asliceS, szOk, srcCells, aappend, astore, amakeSlice, abuildSlice, snapL, mapO, treeL, AVal.tree, AVal.flatT, isFlat, ares, isFz, afroz, afrozB, lookupA, lookupH, tops, if_true, if_false, reduceCtorEq, forall_const, ite_true, ite_false, implies_true, walkS, tabS, Try.results53, e5, e7, ej, e6, List.getElem_replicate]
    · have e : k = ls.length := by omega
      subst e
      simp (config := {decide := true, maxSteps := 1000000}) only [NoH, nilQ, nilA, RechL, ReY, isNew, stepO, XPost, postN, XOk, updN, updU, isEff, avalue, aeff, ASt.eval, ASt.put, ASt.set, ASt.new, Nat.reduceDiv, Nat.reduceAdd, Int.reduceToNat, absV, absC, scalar, alen, acap, conc, flats, live, blkOf, aload, rd, part?, afieldAddr, afield, aindexAddr, cellsOf, afill, places, abuild, optI, asliceV, asliceS, szOk, srcCells, aappend, astore, amakeSlice, abuildSlice, snapL, mapO, treeL, AVal.tree, AVal.flatT, isFlat, ares, isFz, afroz, afrozB, lookupA, lookupH, tops, if_true, if_false, reduceCtorEq, forall_const, ite_true, ite_false, implies_true, walkS, tabS, Try.results53, hlt]
      have hz : List.replicate ls.length (List.replicate ls.length false) = matB (told ls 0) ls.length := by
        rw [matB_false]
        exact matB_congr fun i k _ _ => (told_zero _ _).symm
      simp only [hz]
      refine ex_loop (fun i : {i : Nat // i ≤ ls.length} => mk [(0, intss ls), (3, .own 8 g 0 ls.length), (5, .i i)] ((8, ⟨g, 1, famC 8 gs (matB (told ls i) ls.length)⟩) :: famHf AVal.b 8 gs (matB (told ls i) ls.length)) G 56) (fun i => ls.length - i) ⟨0, by simp⟩ ?_ ?_
      · refine weak_mk rfl (by first | exact Nat.le_refl _ | (simp only [mk_gen]; omega)) ?_ ?_ <;> simp (config := {decide := true}) only [w_lookup_nil, w_lookup_cons, ch_ch, ch_lit, lit_ch, wkT, wkH, wkB, WVL, WV_refl', Int.natCast_zero, Int.natCast_add, Int.natCast_one, Nat.sub_self, Nat.sub_zero, List.replicate_zero, List.take_zero, List.nil_append, List.append_nil, fillC_zero, Nat.reduceDiv, Nat.reduceAdd, upd_bk, bk_at, getB_zero, getB_succ, modB_zero, modB_succ, rows_lit, repB_zero, repB_succ, List.length_cons, List.length_nil, upd_upd_same, upd_apply, mk_tmp, mk_heap, mk_gen, lookupA, lookupH, List.getD_cons_zero, List.getD_cons_succ, init_two, tops, Bool.true_and, and_self, and_true, true_and, true_or, if_true, if_false, ite_true, ite_false, reduceCtorEq, reduceIte]
        refine fam_allf fun j hj => ?_
        simp (config := {decide := true, maxSteps := 1000000}) only [NoH, nilQ, nilA, RechL, ReY, isNew, stepO, XPost, postN, XOk, updN, updU, isEff, avalue, aeff, ASt.eval, ASt.put, ASt.set, ASt.new, Nat.reduceDiv, Nat.reduceAdd, Int.reduceToNat, absV, absC, scalar, alen, acap, conc, flats, live, blkOf, aload, rd, part?, afieldAddr, afield, aindexAddr, cellsOf, afill, places, abuild, optI, asliceV, asliceS, szOk, srcCells, aappend, astore, amakeSlice, abuildSlice, snapL, mapO, treeL, AVal.tree, AVal.flatT, isFlat, ares, isFz, afroz, afrozB, lookupA, lookupH, tops, if_true, if_false, reduceCtorEq, forall_const, ite_true, ite_false, implies_true, walkS, tabS, Try.results53, famH_at (f := AVal.b) (ν := 8) (gs := gs) hj]
      · rintro ⟨i, hi⟩
        by_cases ilt : i < ls.length
        · have hw : IntKind.i64.wrap ((i : Int) + 1) = ((i + 1 : Nat) : Int) := wrap64 (by omega) (by omega)
          simp (config := {decide := true, maxSteps := 1000000}) only [NoH, nilQ, nilA, RechL, ReY, isNew, stepO, XPost, postN, XOk, updN, updU, isEff, avalue, aeff, ASt.eval, ASt.put, ASt.set, ASt.new, Nat.reduceDiv, Nat.reduceAdd, Int.reduceToNat, absV, absC, scalar, alen, acap, conc, flats, live, blkOf, aload, rd, part?, afieldAddr, afield, aindexAddr, cellsOf, afill, places, abuild, optI, asliceV, asliceS, szOk, srcCells, aappend, astore, amakeSlice, abuildSlice, snapL, mapO, treeL, AVal.tree, AVal.flatT, isFlat, ares, isFz, afroz, afrozB, lookupA, lookupH, tops, if_true, if_false, reduceCtorEq, forall_const, ite_true, ite_false, implies_true, walkS, tabS, Try.results53, hw, ilt]
          refine ex_loop (fun k : {k : Nat // k ≤ ls[i].length} => mk [(0, intss ls), (3, .own 8 g 0 ls.length), (5, .i i), (6, .i k)] ((8, ⟨g, 1, famC 8 gs (matB (toldJ ls i (ls[i].take k)) ls.length)⟩) :: famHf AVal.b 8 gs (matB (toldJ ls i (ls[i].take k)) ls.length)) G 56) (fun k => ls[i].length - k) ⟨0, by simp⟩ ?_ ?_
          · have e0 : matB (toldJ ls i []) ls.length = matB (told ls i) ls.length := matB_congr fun a b _ _ => toldJ_nil _ _
            refine weak_mk rfl (by first | exact Nat.le_refl _ | (simp only [mk_gen]; omega)) ?_ ?_ <;> simp (config := {decide := true}) only [w_lookup_nil, w_lookup_cons, ch_ch, ch_lit, lit_ch, wkT, wkH, wkB, WVL, WV_refl', Int.natCast_zero, Int.natCast_add, Int.natCast_one, Nat.sub_self, Nat.sub_zero, List.replicate_zero, List.take_zero, List.nil_append, List.append_nil, fillC_zero, Nat.reduceDiv, Nat.reduceAdd, upd_bk, bk_at, getB_zero, getB_succ, modB_zero, modB_succ, rows_lit, repB_zero, repB_succ, List.length_cons, List.length_nil, upd_upd_same, upd_apply, mk_tmp, mk_heap, mk_gen, lookupA, lookupH, List.getD_cons_zero, List.getD_cons_succ, init_two, tops, Bool.true_and, and_self, and_true, true_and, true_or, if_true, if_false, ite_true, ite_false, reduceCtorEq, reduceIte, e0]
            refine fam_allf fun j hj => ?_
            simp (config := {decide := true, maxSteps := 1000000}) only [NoH, nilQ, nilA, RechL, ReY, isNew, stepO, XPost, postN, XOk, updN, updU, isEff, avalue, aeff, ASt.eval, ASt.put, ASt.set, ASt.new, Nat.reduceDiv, Nat.reduceAdd, Int.reduceToNat, absV, absC, scalar, alen, acap, conc, flats, live, blkOf, aload, rd, part?, afieldAddr, afield, aindexAddr, cellsOf, afill, places, abuild, optI, asliceV, asliceS, szOk, srcCells, aappend, astore, amakeSlice, abuildSlice, snapL, mapO, treeL, AVal.tree, AVal.flatT, isFlat, ares, isFz, afroz, afrozB, lookupA, lookupH, tops, if_true, if_false, reduceCtorEq, forall_const, ite_true, ite_false, implies_true, walkS, tabS, Try.results53, famH_at (f := AVal.b) (ν := 8) (gs := gs) hj]
          · rintro ⟨k, hk⟩
            have hrl := rises_len (hok.2 i ilt).1
            by_cases klt : k < ls[i].length
            · have hw' : IntKind.i64.wrap ((k : Int) + 1) = ((k + 1 : Nat) : Int) := wrap64 (by omega) (by omega)
              obtain ⟨m, em, hm⟩ : ∃ m : Nat, ls[i][k] = m ∧ m < ls.length := by
                have := ((hok.2 i ilt).1 k klt).1
                exact ⟨ls[i][k].toNat, by omega, by omega⟩
              have hmem : (m : Int) ∈ ls[i] := em ▸ List.getElem_mem klt
              have hmi : ¬ m = i := fun e => (hok.2 i ilt).2 (by rw [e] at hmem; exact hmem)
              have hmi' : ¬ i = m := fun e => hmi e.symm
              generalize hQ : toldJ ls i (ls[i].take k) = Q
              have g1 := mat_get (ν := 8) (gs := gs) (q := Q) ilt
              have g2 := mat_get (ν := 8) (gs := gs) (q := Q) hm
              have f1 := mat_at (ν := 8) (gs := gs) (q := Q) ilt
              have f2 := mat_at (ν := 8) (gs := gs) (q := Q) hm
              simp (config := {decide := true, maxSteps := 1000000}) only [NoH, nilQ, nilA, RechL, ReY, isNew, stepO, XPost, postN, XOk, updN, updU, isEff, avalue, aeff, ASt.eval, ASt.put, ASt.set, ASt.new, Nat.reduceDiv, Nat.reduceAdd, Int.reduceToNat, absV, absC, scalar, alen, acap, conc, flats, live, blkOf, aload, rd, part?, afieldAddr, afield, aindexAddr, cellsOf, afill, places, abuild, optI, asliceV, asliceS, szOk, srcCells, aappend, astore, amakeSlice, abuildSlice, snapL, mapO, treeL, AVal.tree, AVal.flatT, isFlat, ares, isFz, afroz, afrozB, lookupA, lookupH, tops, if_true, if_false, reduceCtorEq, forall_const, ite_true, ite_false, implies_true, walkS, tabS, Try.results53, hw', ilt, klt, em, hm, hmi, hmi', g1, g2, f1, f2, rowB_length, rowB_set, mapC_set]
              refine ⟨⟨k + 1, klt⟩, ?_, by show _ - (k + 1) < _ - k; omega⟩
              refine weak_mk rfl (by first | exact Nat.le_refl _ | (simp only [mk_gen]; omega)) ?_ ?_ <;> simp (config := {decide := true}) only [w_lookup_nil, w_lookup_cons, ch_ch, ch_lit, lit_ch, wkT, wkH, wkB, WVL, WV_refl', Int.natCast_zero, Int.natCast_add, Int.natCast_one, Nat.sub_self, Nat.sub_zero, List.replicate_zero, List.take_zero, List.nil_append, List.append_nil, fillC_zero, Nat.reduceDiv, Nat.reduceAdd, upd_bk, bk_at, getB_zero, getB_succ, modB_zero, modB_succ, rows_lit, repB_zero, repB_succ, List.length_cons, List.length_nil, upd_upd_same, upd_apply, mk_tmp, mk_heap, mk_gen, lookupA, lookupH, List.getD_cons_zero, List.getD_cons_succ, init_two, tops, Bool.true_and, and_self, and_true, true_and, true_or, if_true, if_false, ite_true, ite_false, reduceCtorEq, reduceIte, famC_matB (ν := 8) (gs := gs) (toldJ ls i (ls[i].take (k + 1))) Q ls.length]
              have hq' : ∀ a b : Int, toldJ ls i (ls[i].take (k + 1)) a b ↔ Q a b ∨ (a = i ∧ b = m) ∨ (b = i ∧ a = m) := fun a b => by
                rw [List.take_succ_eq_append_getElem klt, em, toldJ_snoc, hQ]
              generalize toldJ ls i (ls[i].take (k + 1)) = Q' at hq'
              refine fam_allf fun j hj => ?_
              have hj2 : j < ls.length := by rw [matB_length] at hj; exact hj
              have eg := matB_get Q' ls.length j hj2
              by_cases e1 : j = m
              · subst e1
                have er : rowB (fun y => Q j y ∨ y = (i : Int)) ls.length = rowB (Q' j) ls.length := rowB_congr fun y _ => by
                  rw [hq']
                  exact ⟨fun h => h.elim .inl fun h => .inr (.inr ⟨h, rfl⟩), fun h => h.elim .inl fun h => h.elim (fun h => absurd h.1 (by omega)) fun h => .inr h.1⟩
                simp (config := {decide := true, maxSteps := 1000000}) only [NoH, nilQ, nilA, RechL, ReY, isNew, stepO, XPost, postN, XOk, updN, updU, isEff, avalue, aeff, ASt.eval, ASt.put, ASt.set, ASt.new, Nat.reduceDiv, Nat.reduceAdd, Int.reduceToNat, absV, absC, scalar, alen, acap, conc, flats, live, blkOf, aload, rd, part?, afieldAddr, afield, aindexAddr, cellsOf, afill, places, abuild, optI, asliceV, asliceS, szOk, srcCells, aappend, astore, amakeSlice, abuildSlice, snapL, mapO, treeL, AVal.tree, AVal.flatT, isFlat, ares, isFz, afroz, afrozB, lookupA, lookupH, tops, if_true, if_false, reduceCtorEq, forall_const, ite_true, ite_false, implies_true, walkS, tabS, Try.results53, eg, er]
              · by_cases e2 : j = i
                · subst e2
                  have er : rowB (fun y => Q j y ∨ y = (m : Int)) ls.length = rowB (Q' j) ls.length := rowB_congr fun y _ => by
                    rw [hq']
                    exact ⟨fun h => h.elim .inl fun h => .inr (.inl ⟨rfl, h⟩), fun h => h.elim .inl fun h => h.elim (fun h => .inr h.2) fun h => absurd h.2 (by omega)⟩
                  simp (config := {decide := true, maxSteps := 1000000}) only [NoH, nilQ, nilA, RechL, ReY, isNew, stepO, XPost, postN, XOk, updN, updU, isEff, avalue, aeff, ASt.eval, ASt.put, ASt.set, ASt.new, Nat.reduceDiv, Nat.reduceAdd, Int.reduceToNat, absV, absC, scalar, alen, acap, conc, flats, live, blkOf, aload, rd, part?, afieldAddr, afield, aindexAddr, cellsOf, afill, places, abuild, optI, asliceV, asliceS, szOk, srcCells, aappend, astore, amakeSlice, abuildSlice, snapL, mapO, treeL, AVal.tree, AVal.flatT, isFlat, ares, isFz, afroz, afrozB, lookupA, lookupH, tops, if_true, if_false, reduceCtorEq, forall_const, ite_true, ite_false, implies_true, walkS, tabS, Try.results53, eg, er, e1]
                · have er : rowB (Q j) ls.length = rowB (Q' j) ls.length := rowB_congr fun y _ => by
                    rw [hq']
                    exact ⟨.inl, fun h => h.elim id fun h => h.elim (fun h => absurd h.1 (by omega)) fun h => absurd h.2 (by omega)⟩
                  have f3 := mat_at (ν := 8) (gs := gs) (q := Q) hj2
                  simp (config := {decide := true, maxSteps := 1000000}) only [NoH, nilQ, nilA, RechL, ReY, isNew, stepO, XPost, postN, XOk, updN, updU, isEff, avalue, aeff, ASt.eval, ASt.put, ASt.set, ASt.new, Nat.reduceDiv, Nat.reduceAdd, Int.reduceToNat, absV, absC, scalar, alen, acap, conc, flats, live, blkOf, aload, rd, part?, afieldAddr, afield, aindexAddr, cellsOf, afill, places, abuild, optI, asliceV, asliceS, szOk, srcCells, aappend, astore, amakeSlice, abuildSlice, snapL, mapO, treeL, AVal.tree, AVal.flatT, isFlat, ares, isFz, afroz, afrozB, lookupA, lookupH, tops, if_true, if_false, reduceCtorEq, forall_const, ite_true, ite_false, implies_true, walkS, tabS, Try.results53, eg, er, e1, e2, f3]
            · have e : k = ls[i].length := by omega
              subst e
              simp (config := {decide := true, maxSteps := 1000000}) only [NoH, nilQ, nilA, RechL, ReY, isNew, stepO, XPost, postN, XOk, updN, updU, isEff, avalue, aeff, ASt.eval, ASt.put, ASt.set, ASt.new, Nat.reduceDiv, Nat.reduceAdd, Int.reduceToNat, absV, absC, scalar, alen, acap, conc, flats, live, blkOf, aload, rd, part?, afieldAddr, afield, aindexAddr, cellsOf, afill, places, abuild, optI, asliceV, asliceS, szOk, srcCells, aappend, astore, amakeSlice, abuildSlice, snapL, mapO, treeL, AVal.tree, AVal.flatT, isFlat, ares, isFz, afroz, afrozB, lookupA, lookupH, tops, if_true, if_false, reduceCtorEq, forall_const, ite_true, ite_false, implies_true, walkS, tabS, Try.results53, hw, ilt, klt]
              refine ⟨⟨i + 1, ilt⟩, ?_, by show _ - (i + 1) < _ - i; omega⟩
              have e0 : matB (told ls (i + 1)) ls.length = matB (toldJ ls i ls[i]) ls.length := matB_congr fun a b _ _ => told_succ ilt _ _
              refine weak_mk rfl (by first | exact Nat.le_refl _ | (simp only [mk_gen]; omega)) ?_ ?_ <;> simp (config := {decide := true}) only [w_lookup_nil, w_lookup_cons, ch_ch, ch_lit, lit_ch, wkT, wkH, wkB, WVL, WV_refl', Int.natCast_zero, Int.natCast_add, Int.natCast_one, Nat.sub_self, Nat.sub_zero, List.replicate_zero, List.take_zero, List.nil_append, List.append_nil, fillC_zero, Nat.reduceDiv, Nat.reduceAdd, upd_bk, bk_at, getB_zero, getB_succ, modB_zero, modB_succ, rows_lit, repB_zero, repB_succ, List.length_cons, List.length_nil, upd_upd_same, upd_apply, mk_tmp, mk_heap, mk_gen, lookupA, lookupH, List.getD_cons_zero, List.getD_cons_succ, init_two, tops, Bool.true_and, and_self, and_true, true_and, true_or, if_true, if_false, ite_true, ite_false, reduceCtorEq, reduceIte, e0, List.take_length]
              refine fam_allf fun j hj => ?_
              simp (config := {decide := true, maxSteps := 1000000}) only [NoH, nilQ, nilA, RechL, ReY, isNew, stepO, XPost, postN, XOk, updN, updU, isEff, avalue, aeff, ASt.eval, ASt.put, ASt.set, ASt.new, Nat.reduceDiv, Nat.reduceAdd, Int.reduceToNat, absV, absC, scalar, alen, acap, conc, flats, live, blkOf, aload, rd, part?, afieldAddr, afield, aindexAddr, cellsOf, afill, places, abuild, optI, asliceV, asliceS, szOk, srcCells, aappend, astore, amakeSlice, abuildSlice, snapL, mapO, treeL, AVal.tree, AVal.flatT, isFlat, ares, isFz, afroz, afrozB, lookupA, lookupH, tops, if_true, if_false, reduceCtorEq, forall_const, ite_true, ite_false, implies_true, walkS, tabS, Try.results53, famH_at (f := AVal.b) (ν := 8) (gs := gs) hj]
        · have e : i = ls.length := by omega
          subst e
          have e0 : matB (told ls ls.length) ls.length = matB (nbr ls) ls.length := matB_congr fun a b ha hb => told_all ha hb
          simp (config := {decide := true, maxSteps := 1000000}) only [NoH, nilQ, nilA, RechL, ReY, isNew, stepO, XPost, postN, XOk, updN, updU, isEff, avalue, aeff, ASt.eval, ASt.put, ASt.set, ASt.new, Nat.reduceDiv, Nat.reduceAdd, Int.reduceToNat, absV, absC, scalar, alen, acap, conc, flats, live, blkOf, aload, rd, part?, afieldAddr, afield, aindexAddr, cellsOf, afill, places, abuild, optI, asliceV, asliceS, szOk, srcCells, aappend, astore, amakeSlice, abuildSlice, snapL, mapO, treeL, AVal.tree, AVal.flatT, isFlat, ares, isFz, afroz, afrozB, lookupA, lookupH, tops, if_true, if_false, reduceCtorEq, forall_const, ite_true, ite_false, implies_true, walkS, tabS, Try.results53, ilt, e0, matB_length, famS, famS2, famS3]
end Go.Proofs.Ytncbhafegccpmaa
