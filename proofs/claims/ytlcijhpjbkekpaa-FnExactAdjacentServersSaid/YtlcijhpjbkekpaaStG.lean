/-
  OWN WORK: servers of adjacent cells: the program's side, whole.
-/
import Derived.Test.YtlcijhpjbkekpaaStF
namespace Go.Proofs.Ytlcijhpjbkekpaa
open Go Go.Own Go.Proofs
set_option maxHeartbeats 4000000
set_option maxRecDepth 20000
set_option linter.unusedSimpArgs false
/-- the rows after the first m pairs, in no order -/
structure AdI (sv : List Int) (W n m : Nat) (rows : List (List Int)) : Prop where
  len : rows.length = n
  le : ∀ (x : Nat) (h : x < rows.length), rows[x].length ≤ 2 * m
  mem : ∀ (x : Nat) (h : x < rows.length) (y : Int), y ∈ rows[x] ↔ ∃ k : Nat, k < n ∧ y = k ∧ adjT sv W m x k
noncomputable def meetV (rows : List (List Int)) (a b : Int) : List (List Int) := if bp (0 ≤ a ∧ 0 ≤ b ∧ a ≠ b) then meetR rows a.toNat b.toNat else rows
theorem meetR_length (rows : List (List Int)) (a b : Nat) : (meetR rows a b).length = rows.length := by simp [meetR]
theorem meetR_get {rows : List (List Int)} {a b : Nat} (hne : a ≠ b) (ha : a < rows.length) (hb : b < rows.length) (x : Nat) (h : x < (meetR rows a b).length) :
    (meetR rows a b)[x] = (if x = a then rows[a] ++ [(b : Int)] else if x = b then rows[b] ++ [(a : Int)] else rows[x]'(by rw [meetR_length] at h; exact h)) := by
  have ea : rows.getD a [] = rows[a] := by simp [List.getD, ha]
  have eb : rows.getD b [] = rows[b] := by simp [List.getD, hb]
  unfold meetR
  simp only [ea, eb, List.getElem_set]
  by_cases e1 : x = a
  · subst e1
    have : ¬ b = x := fun h => hne h.symm
    simp [this]
  · by_cases e2 : x = b
    · subst e2
      simp [e1]
    · have h1 : ¬ b = x := fun h => e2 h.symm
      have h2 : ¬ a = x := fun h => e1 h.symm
      simp [e1, e2, h1, h2]
theorem adI_zero (sv : List Int) (W n : Nat) : AdI sv W n 0 (List.replicate n []) := ⟨by simp, fun x h => by simp, fun x h y => by
  simp only [List.getElem_replicate, List.not_mem_nil, false_iff]
  rintro ⟨k, _, _, hk⟩
  exact adjT_zero.1 hk⟩
theorem adI_no {sv : List Int} {W n m : Nat} {rows : List (List Int)} (h : AdI sv W n m rows) (hno : ∀ x y, ¬ adjS sv W m x y) : AdI sv W n (m + 1) rows :=
  ⟨h.len, fun x hx => by have := h.le x hx; omega, fun x hx y => by
    rw [h.mem x hx y]
    constructor
    · rintro ⟨k, h1, h2, h3⟩; exact ⟨k, h1, h2, (adjT_same hno _ _).2 h3⟩
    · rintro ⟨k, h1, h2, h3⟩; exact ⟨k, h1, h2, (adjT_same hno _ _).1 h3⟩⟩
theorem adI_meet {sv : List Int} {W n m : Nat} {rows : List (List Int)} {a b : Int} (h : AdI sv W n m rows) (hp : ∀ x y, adjS sv W m x y ↔ (x = a ∧ y = b ∧ 0 ≤ a ∧ 0 ≤ b ∧ a ≠ b)) (ha : a < n) (hb : b < n) : AdI sv W n (m + 1) (meetV rows a b) := by
  unfold meetV
  by_cases hg : 0 ≤ a ∧ 0 ≤ b ∧ a ≠ b
  · rw [if_pos (by rw [bp_true]; exact hg)]
    obtain ⟨A, rfl⟩ : ∃ A : Nat, a = A := ⟨a.toNat, by omega⟩
    obtain ⟨B, rfl⟩ : ∃ B : Nat, b = B := ⟨b.toNat, by omega⟩
    have hAB : A ≠ B := fun e => hg.2.2 (by omega)
    have hA : A < rows.length := by have := h.len; omega
    have hB : B < rows.length := by have := h.len; omega
    have hadd := adjT_add (sv := sv) (w := W) (m := m) (a := A) (b := B) fun x y => (hp x y).trans ⟨fun h => ⟨h.1, h.2.1⟩, fun h => ⟨h.1, h.2, hg⟩⟩
    simp only [Int.toNat_natCast]
    refine ⟨by rw [meetR_length]; exact h.len, fun x hx => ?_, fun x hx y => ?_⟩
    · rw [meetR_get hAB hA hB x hx]
      have := h.le A hA
      have := h.le B hB
      split
      · simp; omega
      · split
        · simp; omega
        · have := h.le x (by rw [meetR_length] at hx; exact hx)
          omega
    · have hx2 : x < rows.length := by rw [meetR_length] at hx; exact hx
      have hxn : x < n := by have := h.len; omega
      rw [meetR_get hAB hA hB x hx]
      have hr : (∃ k : Nat, k < n ∧ y = k ∧ adjT sv W (m + 1) x k) ↔ ((∃ k : Nat, k < n ∧ y = k ∧ adjT sv W m x k) ∨ (x = A ∧ y = B) ∨ (x = B ∧ y = A)) := by
        constructor
        · rintro ⟨k, h1, h2, h3⟩
          rcases (hadd _ _).1 h3 with h4 | h4 | h4
          · exact .inl ⟨k, h1, h2, h4⟩
          · exact .inr (.inl ⟨by omega, by omega⟩)
          · exact .inr (.inr ⟨by omega, by omega⟩)
        · rintro (⟨k, h1, h2, h3⟩ | ⟨h1, h2⟩ | ⟨h1, h2⟩)
          · exact ⟨k, h1, h2, (hadd _ _).2 (.inl h3)⟩
          · exact ⟨B, by omega, h2, (hadd _ _).2 (.inr (.inl ⟨by omega, rfl⟩))⟩
          · exact ⟨A, by omega, h2, (hadd _ _).2 (.inr (.inr ⟨by omega, rfl⟩))⟩
      rw [hr]
      by_cases e1 : x = A
      · subst e1
        rw [if_pos rfl, List.mem_append, h.mem x hx2 y, List.mem_singleton]
        constructor
        · rintro (h | h)
          · exact .inl h
          · exact .inr (.inl ⟨rfl, h⟩)
        · rintro (h | h | h)
          · exact .inl h
          · exact .inr h.2
          · exact absurd h.1 hAB
      · rw [if_neg e1]
        by_cases e2 : x = B
        · subst e2
          rw [if_pos rfl, List.mem_append, h.mem x hx2 y, List.mem_singleton]
          constructor
          · rintro (h | h)
            · exact .inl h
            · exact .inr (.inr ⟨rfl, h⟩)
          · rintro (h | h | h)
            · exact .inl h
            · exact absurd h.1 e1
            · exact .inr h.2
        · rw [if_neg e2, h.mem x hx2 y]
          exact ⟨.inl, fun h => h.elim id fun h => h.elim (fun h => absurd h.1 e1) fun h => absurd h.1 e2⟩
  · rw [if_neg (by rw [bp_true]; exact hg)]
    exact adI_no h fun x y hxy => hg ((hp x y).1 hxy).2.2
theorem denx_meetV (rows : List (List Int)) (n : Nat) (hl0 : rows.length = n) (hr : ∀ r ∈ rows, r.length ≤ 1000000) (a b : Int) (ha : a < n) (hb : b < n) : DenX Try.prog 20 [xi a, xi b, .op [.ol 1 (mapC xints rows) n]] [xi a, xi b, .op [.ol 1 (mapC xints (meetV rows a b)) n]] (.tup []) := by
  unfold meetV
  by_cases hg : 0 ≤ a ∧ 0 ≤ b ∧ a ≠ b
  · rw [if_pos (by rw [bp_true]; exact hg)]
    obtain ⟨A, rfl⟩ : ∃ A : Nat, a = A := ⟨a.toNat, by omega⟩
    obtain ⟨B, rfl⟩ : ∃ B : Nat, b = B := ⟨b.toNat, by omega⟩
    exact denx_meet rows n hl0 hr A B (fun e => hg.2.2 (by omega)) (by omega) (by omega)
  · rw [if_neg (by rw [bp_true]; exact hg)]
    exact denx_meetNo rows n hl0 a b hg
theorem adI_row {sv : List Int} {W n m : Nat} {rows : List (List Int)} (h : AdI sv W n m rows) (hm : m ≤ 100000) {r : List Int} (hr : r ∈ rows) : r.length ≤ 1000000 := by
  obtain ⟨x, hx, rfl⟩ := List.getElem_of_mem hr
  have := h.le x hx
  omega
theorem WVL_nlfam {s s' : ASt} {ν : Nat} {gs : Nat → Nat} : ∀ (n i : Nat), (∀ j, i ≤ j → j < i + n → s.heap (ch ν j) = none ∧ s'.heap (ch ν j) = some ⟨gs j, 1, []⟩) → WVL s s' (List.replicate n .nl) (famCo ν gs i (List.replicate n ([] : List Int)))
  | 0, _, _ => trivial
  | n + 1, i, h => ⟨WV_nl (h i (Nat.le_refl _) (by omega)).1 (h i (Nat.le_refl _) (by omega)).2 rfl rfl, WVL_nlfam n (i + 1) fun j h1 h2 => h j (by omega) (by omega)⟩
/-- the first i rows sorted and cut down -/
structure AdS (q : Int → Int → Prop) (n i : Nat) (rows rs : List (List Int)) : Prop where
  len : rs.length = n
  done : ∀ (j : Nat) (h : j < rs.length), j < i → rs[j] = plK (q j) n
  todo : ∀ (j : Nat) (h : j < rs.length) (h2 : j < rows.length), ¬ j < i → rs[j] = rows[j]
theorem adS_end {q : Int → Int → Prop} {n : Nat} {rows rs : List (List Int)} (h : AdS q n n rows rs) : rs = rowsQ q n := by
  refine List.ext_getElem (by rw [h.len, rowsQ_length]) fun i h1 h2 => ?_
  have hi : i < n := by have := h.len; omega
  rw [rowsQ_get q hi]
  exact h.done i h1 hi
theorem adS_step {q : Int → Int → Prop} {n i : Nat} {rows rs : List (List Int)} (h : AdS q n i rows rs) : AdS q n (i + 1) rows (rs.set i (plK (q i) n)) := by
  refine ⟨by rw [List.length_set]; exact h.len, fun j hj h1 => ?_, fun j hj h2 h1 => ?_⟩
  · rw [List.getElem_set]
    split
    · rename_i e; rw [e]
    · rename_i e; exact h.done j (by rw [List.length_set] at hj; exact hj) (by omega)
  · rw [List.getElem_set, if_neg (by omega)]
    exact h.todo j (by rw [List.length_set] at hj; exact hj) h2 (by omega)
theorem mod_edge {i W : Nat} (hW : 0 < W) : (i + 1) % W = 0 ↔ i % W = W - 1 := by
  have h1 := Nat.mod_add_div i W
  have h2 := Nat.mod_lt i hW
  by_cases h : i % W = W - 1
  · refine ⟨fun _ => h, fun _ => ?_⟩
    have : i + 1 = W * (i / W + 1) := by rw [Nat.mul_add]; omega
    rw [this, Nat.mul_mod_right]
  · refine ⟨fun h3 => ?_, fun h3 => absurd h3 h⟩
    have e : (i + 1) % W = i % W + 1 := by
      have : i + 1 = (i % W + 1) + W * (i / W) := by omega
      rw [this, Nat.add_mul_mod_self_left, Nat.mod_eq_of_lt (by omega)]
    omega
theorem denx_implAdjacentServers (s w h : Int) (sv lv : List Int) (hb0 : sv.length ≤ 1000000000000) : DenX Try.prog 7 [.v (rasV s w h sv lv)] [.v (rasV s w h sv lv)] (.tup [.ol 1 (mapC xints (adL s w h sv lv)) (adL s w h sv lv).length, xi (adC s w h sv lv)]) := by
  by_cases h1 : OkRas s w h sv lv
  case neg =>
    obtain ⟨e1, e2⟩ := ad_no h1
    rw [e1, e2]
    refine denx_of_awp Try.func7 rfl (by kernel_rfl) (Nat.le_of_ble_eq_true rfl) (by simp +decide only [w_embA_nil, w_embA_cons, w_emb_v, w_emb_ol, w_emb_op, w_emb_agg, w_emb_tup, w_embL_nil, w_embL_cons, embL_i, List.map_cons, List.map_nil, List.nil_append, List.append_nil, List.cons_append, List.nodup_cons, List.nodup_nil, List.mem_cons, List.mem_nil_iff, List.not_mem_nil, ch_ch, ch_lit, lit_ch, Nat.reduceAdd]) mixed (by kernel_rfl) fun hl => ?_
    simp only [xlensL, xlens, lensL, lens, lensL_i, lensL_mapC, xlensL_i, maxI, and_true, true_and] at hl
    rw [Try.ntmps7]
    refine ex_start ?_
    simp (config := { maxSteps := 1000000 }) +decide only [NoH, Old, OldL, nilQ, nilA, RechL, ReY, isNew, stepO, XPost, postN, XOk, updN, updU, isEff, avalue, aeff, ASt.eval, ASt.put, ASt.set, ASt.new, Nat.reduceDiv, Nat.reduceAdd, Int.reduceToNat, absV, absC, scalar, alen, acap, conc, flats, live, blkOf, aload, rd, part?, afieldAddr, afield, aindexAddr, cellsOf, afill, places, abuild, optI, asliceV, asliceS, szOk, srcCells, aappend, astore, amakeSlice, abuildSlice, snapL, mapO, treeL, AVal.tree, AVal.flatT, isFlat, ares, isFz, afroz, afrozB, lookupA, lookupH, tops, if_true, if_false, reduceCtorEq, forall_const, ite_true, ite_false, implies_true, walkS, tabS, Try.results7]
    refine callK (den_ValidRaster s w h sv lv) (by first | exact .inl rfl | exact .inr rfl) ?_
    simp (config := { maxSteps := 1000000 }) +decide only [NoH, Old, OldL, nilQ, nilA, RechL, ReY, isNew, stepO, XPost, postN, XOk, updN, updU, isEff, avalue, aeff, ASt.eval, ASt.put, ASt.set, ASt.new, Nat.reduceDiv, Nat.reduceAdd, Int.reduceToNat, absV, absC, scalar, alen, acap, conc, flats, live, blkOf, aload, rd, part?, afieldAddr, afield, aindexAddr, cellsOf, afill, places, abuild, optI, asliceV, asliceS, szOk, srcCells, aappend, astore, amakeSlice, abuildSlice, snapL, mapO, treeL, AVal.tree, AVal.flatT, isFlat, ares, isFz, afroz, afrozB, lookupA, lookupH, tops, if_true, if_false, reduceCtorEq, forall_const, ite_true, ite_false, implies_true, walkS, tabS, Try.results7, h1, mapC_nil, List.length_nil]
  obtain ⟨e1, e2⟩ := ad_yes h1
  rw [e1, e2]
  obtain ⟨n, hn, en, hsv, _⟩ := sc_yes h1
  have eN : adN sv = n := by unfold adN; omega
  rw [eN]
  obtain ⟨W, rfl⟩ : ∃ W : Nat, w = W := ⟨w.toNat, by have := h1.1.2.1; omega⟩
  have hW : 2 ≤ W ∧ W ≤ 24 := by have := h1.1.2.1; omega
  have eW2 : (W : Int).toNat = W := by omega
  rw [eW2, rowsQ_length]
  have hsl := (ok_pos h1).2
  have hpos := (ok_pos h1).1
  have h8 : (n : Int) * ((24 : Nat) : Int) ≤ 281474976710656 := by omega
  have h63 : (n : Int) ≤ 9223372036854775807 := by omega
  generalize hFin : rowsQ (adjT sv W (2 * sv.length)) n = FIN
  refine denx_of_awpG (ghs [(15, ch 4 0)] []) Try.func7 rfl (by kernel_rfl) (Nat.le_of_ble_eq_true rfl) (by simp +decide only [w_embA_nil, w_embA_cons, w_emb_v, w_emb_ol, w_emb_op, w_emb_agg, w_emb_tup, w_embL_nil, w_embL_cons, embL_i, List.map_cons, List.map_nil, List.nil_append, List.append_nil, List.cons_append, List.nodup_cons, List.nodup_nil, List.mem_cons, List.mem_nil_iff, List.not_mem_nil, ch_ch, ch_lit, lit_ch, Nat.reduceAdd]) mixed (by kernel_rfl) fun hl => ?_
  simp only [xlensL, xlens, lensL, lens, lensL_i, lensL_mapC, xlensL_i, maxI, and_true, true_and] at hl
  rw [Try.ntmps7]
  refine ex_start ?_
  simp (config := { maxSteps := 1000000 }) +decide only [NoH, Old, OldL, nilQ, nilA, RechL, ReY, isNew, stepO, XPost, postN, XOk, updN, updU, isEff, avalue, aeff, ASt.eval, ASt.put, ASt.set, ASt.new, Nat.reduceDiv, Nat.reduceAdd, Int.reduceToNat, absV, absC, scalar, alen, acap, conc, flats, live, blkOf, aload, rd, part?, afieldAddr, afield, aindexAddr, cellsOf, afill, places, abuild, optI, asliceV, asliceS, szOk, srcCells, aappend, astore, amakeSlice, abuildSlice, snapL, mapO, treeL, AVal.tree, AVal.flatT, isFlat, ares, isFz, afroz, afrozB, lookupA, lookupH, tops, if_true, if_false, reduceCtorEq, forall_const, ite_true, ite_false, implies_true, walkS, tabS, Try.results7]
  refine callK (den_ValidRaster s W h sv lv) (by first | exact .inl rfl | exact .inr rfl) ?_
  simp (config := { maxSteps := 1000000 }) +decide only [NoH, Old, OldL, nilQ, nilA, RechL, ReY, isNew, stepO, XPost, postN, XOk, updN, updU, isEff, avalue, aeff, ASt.eval, ASt.put, ASt.set, ASt.new, Nat.reduceDiv, Nat.reduceAdd, Int.reduceToNat, absV, absC, scalar, alen, acap, conc, flats, live, blkOf, aload, rd, part?, afieldAddr, afield, aindexAddr, cellsOf, afill, places, abuild, optI, asliceV, asliceS, szOk, srcCells, aappend, astore, amakeSlice, abuildSlice, snapL, mapO, treeL, AVal.tree, AVal.flatT, isFlat, ares, isFz, afroz, afrozB, lookupA, lookupH, tops, if_true, if_false, reduceCtorEq, forall_const, ite_true, ite_false, implies_true, walkS, tabS, Try.results7, h1]
  refine callK (den_servers s W h sv lv (by omega) (ok_sv h1)) (by first | exact .inl rfl | exact .inr rfl) ?_
  simp (config := { maxSteps := 1000000 }) +decide only [NoH, Old, OldL, nilQ, nilA, RechL, ReY, isNew, stepO, XPost, postN, XOk, updN, updU, isEff, avalue, aeff, ASt.eval, ASt.put, ASt.set, ASt.new, Nat.reduceDiv, Nat.reduceAdd, Int.reduceToNat, absV, absC, scalar, alen, acap, conc, flats, live, blkOf, aload, rd, part?, afieldAddr, afield, aindexAddr, cellsOf, afill, places, abuild, optI, asliceV, asliceS, szOk, srcCells, aappend, astore, amakeSlice, abuildSlice, snapL, mapO, treeL, AVal.tree, AVal.flatT, isFlat, ares, isFz, afroz, afrozB, lookupA, lookupH, tops, if_true, if_false, reduceCtorEq, forall_const, ite_true, ite_false, implies_true, walkS, tabS, Try.results7, en, h8, h63, famS, famS2, famS3]
  have hne4 : ¬ 4 = ch 4 0 := by have := ch_gt 4 0; omega
  have hn4 : ¬ ch 4 0 = 4 := fun h => hne4 h.symm
  refine ex_loop (fun p : {p : Nat × Nat × Nat × (Nat → Nat) × List (List Int) // p.1 ≤ sv.length ∧ AdI sv W n (2 * p.1) p.2.2.2.2} => mk [(1, .ptr 1 1 0), (4, .ptr 4 3 0), (5, .clo 20 [.ptr 4 3 0]), (18, ints sv), (19, .i sv.length), (20, .i p.1.1)] ((1, ⟨1, 5, [.i s, .i W, .i h, ints sv, ints lv]⟩) :: (4, ⟨3, 1, [.own (ch 4 0) p.1.2.1 0 n]⟩) :: (ch 4 0, ⟨p.1.2.1, 1, famC (ch 4 0) p.1.2.2.2.1 p.1.2.2.2.2⟩) :: famH (ch 4 0) p.1.2.2.2.1 p.1.2.2.2.2) p.1.2.2.1 76) (fun p => sv.length - p.1.1) ⟨(0, 2, 5, fun _ => 4, List.replicate n []), Nat.zero_le _, adI_zero sv W n⟩ ?_ ?_
  · refine weak_mk rfl (by first | exact Nat.le_refl _ | (simp only [mk_gen]; omega)) ?_ ?_ <;> simp +decide only [w_lookup_nil, w_lookup_cons, ch_ch, ch_lit, lit_ch, wkT, wkH, wkB, WVL, WV_refl', Int.natCast_zero, Int.natCast_add, Int.natCast_one, Nat.sub_self, Nat.sub_zero, List.replicate_zero, List.take_zero, List.nil_append, List.append_nil, fillC_zero, Nat.reduceDiv, Nat.reduceAdd, upd_bk, bk_at, getB_zero, getB_succ, modB_zero, modB_succ, rows_lit, repB_zero, repB_succ, List.length_cons, List.length_nil, upd_upd_same, upd_apply, mk_tmp, mk_heap, mk_gen, lookupA, lookupH, List.getD_cons_zero, List.getD_cons_succ, init_two, tops, Bool.true_and, and_self, and_true, true_and, true_or, if_true, if_false, ite_true, ite_false, reduceCtorEq, reduceIte, hne4, hn4]
    have hz : ∀ j, j < n → (famH (ch 4 0) (fun _ => 4) (List.replicate n [])) = famH (ch 4 0) (fun _ => 4) (List.replicate n []) := fun _ _ => rfl
    refine ⟨.inr (WVL_nlfam n 0 fun j _ hj => ⟨?_, ?_⟩), wkH_fam.2 fun j hj => ?_⟩
    · simp (config := { maxSteps := 1000000 }) +decide only [NoH, Old, OldL, nilQ, nilA, RechL, ReY, isNew, stepO, XPost, postN, XOk, updN, updU, isEff, avalue, aeff, ASt.eval, ASt.put, ASt.set, ASt.new, Nat.reduceDiv, Nat.reduceAdd, Int.reduceToNat, absV, absC, scalar, alen, acap, conc, flats, live, blkOf, aload, rd, part?, afieldAddr, afield, aindexAddr, cellsOf, afill, places, abuild, optI, asliceV, asliceS, szOk, srcCells, aappend, astore, amakeSlice, abuildSlice, snapL, mapO, treeL, AVal.tree, AVal.flatT, isFlat, ares, isFz, afroz, afrozB, lookupA, lookupH, tops, if_true, if_false, reduceCtorEq, forall_const, ite_true, ite_false, implies_true, walkS, tabS, Try.results7, hne4, hn4, famS, famS2, famS3]
    · have hj2 : j < (List.replicate n ([] : List Int)).length := by simp; omega
      have e1 := famH_at (f := AVal.i) (ν := ch 4 0) (gs := fun _ => 4) hj2
      rw [List.getElem_replicate] at e1
      simp (config := { maxSteps := 1000000 }) +decide only [NoH, Old, OldL, nilQ, nilA, RechL, ReY, isNew, stepO, XPost, postN, XOk, updN, updU, isEff, avalue, aeff, ASt.eval, ASt.put, ASt.set, ASt.new, Nat.reduceDiv, Nat.reduceAdd, Int.reduceToNat, absV, absC, scalar, alen, acap, conc, flats, live, blkOf, aload, rd, part?, afieldAddr, afield, aindexAddr, cellsOf, afill, places, abuild, optI, asliceV, asliceS, szOk, srcCells, aappend, astore, amakeSlice, abuildSlice, snapL, mapO, treeL, AVal.tree, AVal.flatT, isFlat, ares, isFz, afroz, afrozB, lookupA, lookupH, tops, if_true, if_false, reduceCtorEq, forall_const, ite_true, ite_false, implies_true, walkS, tabS, Try.results7, hne4, hn4, famS, famS2, famS3, e1, mapC_nil]
    · simp (config := { maxSteps := 1000000 }) +decide only [NoH, Old, OldL, nilQ, nilA, RechL, ReY, isNew, stepO, XPost, postN, XOk, updN, updU, isEff, avalue, aeff, ASt.eval, ASt.put, ASt.set, ASt.new, Nat.reduceDiv, Nat.reduceAdd, Int.reduceToNat, absV, absC, scalar, alen, acap, conc, flats, live, blkOf, aload, rd, part?, afieldAddr, afield, aindexAddr, cellsOf, afill, places, abuild, optI, asliceV, asliceS, szOk, srcCells, aappend, astore, amakeSlice, abuildSlice, snapL, mapO, treeL, AVal.tree, AVal.flatT, isFlat, ares, isFz, afroz, afrozB, lookupA, lookupH, tops, if_true, if_false, reduceCtorEq, forall_const, ite_true, ite_false, implies_true, walkS, tabS, Try.results7, hne4, hn4, famS, famS2, famS3, wkB, List.getElem_replicate, mapC_nil, Nat.le_refl]
  rintro ⟨⟨i, g, G, gs, rows⟩, hi, hI⟩
  have hi' : i ≤ sv.length := hi
  have hI' : AdI sv W n (2 * i) rows := hI
  by_cases ilt : i < sv.length
  case neg =>
    have e : i = sv.length := by omega
    subst e
    have hlen := hI'.len
    have hqm := fun (x : Nat) (hx : x < rows.length) => compact_plK (hI'.mem x hx)
    have hrl := hI'.le
    obtain ⟨Q, hQ⟩ : ∃ Q, Q = adjT sv W (2 * sv.length) := ⟨_, rfl⟩
    rw [← hQ] at hFin
    simp only [← hQ] at hqm
    simp (config := { maxSteps := 1000000 }) +decide only [NoH, Old, OldL, nilQ, nilA, RechL, ReY, isNew, stepO, XPost, postN, XOk, updN, updU, isEff, avalue, aeff, ASt.eval, ASt.put, ASt.set, ASt.new, Nat.reduceDiv, Nat.reduceAdd, Int.reduceToNat, absV, absC, scalar, alen, acap, conc, flats, live, blkOf, aload, rd, part?, afieldAddr, afield, aindexAddr, cellsOf, afill, places, abuild, optI, asliceV, asliceS, szOk, srcCells, aappend, astore, amakeSlice, abuildSlice, snapL, mapO, treeL, AVal.tree, AVal.flatT, isFlat, ares, isFz, afroz, afrozB, lookupA, lookupH, tops, if_true, if_false, reduceCtorEq, forall_const, ite_true, ite_false, implies_true, walkS, tabS, Try.results7, ilt, hne4, hn4]
    refine ex_loop (fun p : {p : Nat × (Nat → Nat) × Nat × List (List Int) // p.1 ≤ n ∧ AdS Q n p.1 rows p.2.2.2} => mkG (ghs [(72, ch (ch 4 0) p.1.1)] []) [(4, .ptr 4 3 0), (60, .own (ch 4 0) g 0 n), (61, .i n), (62, .i p.1.1)] ((4, ⟨3, 1, [.own (ch 4 0) g 0 n]⟩) :: (ch 4 0, ⟨g, 1, famC (ch 4 0) p.1.2.1 p.1.2.2.2⟩) :: famH (ch 4 0) p.1.2.1 p.1.2.2.2) p.1.2.2.1 76) (fun p => n - p.1.1) ⟨(0, gs, G, rows), Nat.zero_le _, ⟨hlen, fun j _ h => absurd h (Nat.not_lt_zero j), fun j _ _ _ => rfl⟩⟩ ?_ ?_
    · refine weak_mk rfl (by first | exact Nat.le_refl _ | (simp only [mk_gen]; omega)) ?_ ?_ <;> simp +decide only [w_lookup_nil, w_lookup_cons, ch_ch, ch_lit, lit_ch, wkT, wkH, wkB, WVL, WV_refl', Int.natCast_zero, Int.natCast_add, Int.natCast_one, Nat.sub_self, Nat.sub_zero, List.replicate_zero, List.take_zero, List.nil_append, List.append_nil, fillC_zero, Nat.reduceDiv, Nat.reduceAdd, upd_bk, bk_at, getB_zero, getB_succ, modB_zero, modB_succ, rows_lit, repB_zero, repB_succ, List.length_cons, List.length_nil, upd_upd_same, upd_apply, mk_tmp, mk_heap, mk_gen, lookupA, lookupH, List.getD_cons_zero, List.getD_cons_succ, init_two, tops, Bool.true_and, and_self, and_true, true_and, true_or, if_true, if_false, ite_true, ite_false, reduceCtorEq, reduceIte, hne4, hn4]
      refine fam_all fun j hj => ?_
      simp (config := { maxSteps := 1000000 }) +decide only [NoH, Old, OldL, nilQ, nilA, RechL, ReY, isNew, stepO, XPost, postN, XOk, updN, updU, isEff, avalue, aeff, ASt.eval, ASt.put, ASt.set, ASt.new, Nat.reduceDiv, Nat.reduceAdd, Int.reduceToNat, absV, absC, scalar, alen, acap, conc, flats, live, blkOf, aload, rd, part?, afieldAddr, afield, aindexAddr, cellsOf, afill, places, abuild, optI, asliceV, asliceS, szOk, srcCells, aappend, astore, amakeSlice, abuildSlice, snapL, mapO, treeL, AVal.tree, AVal.flatT, isFlat, ares, isFz, afroz, afrozB, lookupA, lookupH, tops, if_true, if_false, reduceCtorEq, forall_const, ite_true, ite_false, implies_true, walkS, tabS, Try.results7, famS, famS2, famS3, hne4, hn4, famH_at (f := AVal.i) (ν := ch 4 0) (gs := gs) hj]
    rintro ⟨⟨k, gs, G, rs⟩, hk, hS⟩
    have hk' : k ≤ n := hk
    have hS' : AdS Q n k rows rs := hS
    have hrn := hS'.len
    by_cases klt : k < n
    case neg =>
      have e : n = k := by omega
      subst e
      have er := adS_end hS'
      rw [hFin] at er
      have tkf := take_famC (ν := ch 4 0) (gs := gs) hrn
      subst er
      simp (config := { maxSteps := 1000000 }) +decide only [NoH, Old, OldL, nilQ, nilA, RechL, ReY, isNew, stepO, XPost, postN, XOk, updN, updU, isEff, avalue, aeff, ASt.eval, ASt.put, ASt.set, ASt.new, Nat.reduceDiv, Nat.reduceAdd, Int.reduceToNat, absV, absC, scalar, alen, acap, conc, flats, live, blkOf, aload, rd, part?, afieldAddr, afield, aindexAddr, cellsOf, afill, places, abuild, optI, asliceV, asliceS, szOk, srcCells, aappend, astore, amakeSlice, abuildSlice, snapL, mapO, treeL, AVal.tree, AVal.flatT, isFlat, ares, isFz, afroz, afrozB, lookupA, lookupH, tops, if_true, if_false, reduceCtorEq, forall_const, ite_true, ite_false, implies_true, walkS, tabS, Try.results7, klt, hne4, hn4, famS, famS2, famS3, tkf, hrn, len_mapC]
    have k1 : k < rs.length := by omega
    have k2 : k < rows.length := by omega
    have er := hS'.todo k k1 k2 (Nat.lt_irrefl k)
    have hq := hqm k k2
    rw [← er] at hq
    have hb := hrl k k2
    rw [← er] at hb
    have hw : IntKind.i64.wrap ((k : Int) + 1) = ((k + 1 : Nat) : Int) := wrap64 (by omega) (by omega)
    have gk := get_famC (ν := ch 4 0) (gs := gs) k1
    have fk := famH_at (f := AVal.i) (ν := ch 4 0) (gs := gs) k1
    have sl := sortI_length rs[k]
    have tk2 : (sortI rs[k]).take rs[k].length = sortI rs[k] := List.take_of_length_le (by omega)
    have tk3 : rs[k].take rs[k].length = rs[k] := List.take_length
    have hL := fun G : Nat => lay_famC (ν := ch 4 0) (gs := gs) (g := G) (r := plK (Q k) n) (m := (plK (Q k) n).length) k1 rfl
    simp (config := { maxSteps := 1000000 }) +decide only [NoH, Old, OldL, nilQ, nilA, RechL, ReY, isNew, stepO, XPost, postN, XOk, updN, updU, isEff, avalue, aeff, ASt.eval, ASt.put, ASt.set, ASt.new, Nat.reduceDiv, Nat.reduceAdd, Int.reduceToNat, absV, absC, scalar, alen, acap, conc, flats, live, blkOf, aload, rd, part?, afieldAddr, afield, aindexAddr, cellsOf, afill, places, abuild, optI, asliceV, asliceS, szOk, srcCells, aappend, astore, amakeSlice, abuildSlice, snapL, mapO, treeL, AVal.tree, AVal.flatT, isFlat, ares, isFz, afroz, afrozB, lookupA, lookupH, tops, if_true, if_false, reduceCtorEq, forall_const, ite_true, ite_false, implies_true, walkS, tabS, Try.results7, klt, k1, hne4, hn4, famS, famS2, famS3, gk, fk]
    refine callX (denx_sortI rs[k] (by omega)) (by simp (config := { maxSteps := 1000000 }) +decide only [NoH, Old, OldL, nilQ, nilA, RechL, ReY, isNew, stepO, XPost, postN, XOk, updN, updU, isEff, avalue, aeff, ASt.eval, ASt.put, ASt.set, ASt.new, Nat.reduceDiv, Nat.reduceAdd, Int.reduceToNat, absV, absC, scalar, alen, acap, conc, flats, live, blkOf, aload, rd, part?, afieldAddr, afield, aindexAddr, cellsOf, afill, places, abuild, optI, asliceV, asliceS, szOk, srcCells, aappend, astore, amakeSlice, abuildSlice, snapL, mapO, treeL, AVal.tree, AVal.flatT, isFlat, ares, isFz, afroz, afrozB, lookupA, lookupH, tops, if_true, if_false, reduceCtorEq, forall_const, ite_true, ite_false, implies_true, walkS, tabS, Try.results7, famS, famS2, famS3, hne4, hn4, gk, fk, sl, tk2, tk3, len_mapC]) ?_
    simp (config := { maxSteps := 1000000 }) +decide only [NoH, Old, OldL, nilQ, nilA, RechL, ReY, isNew, stepO, XPost, postN, XOk, updN, updU, isEff, avalue, aeff, ASt.eval, ASt.put, ASt.set, ASt.new, Nat.reduceDiv, Nat.reduceAdd, Int.reduceToNat, absV, absC, scalar, alen, acap, conc, flats, live, blkOf, aload, rd, part?, afieldAddr, afield, aindexAddr, cellsOf, afill, places, abuild, optI, asliceV, asliceS, szOk, srcCells, aappend, astore, amakeSlice, abuildSlice, snapL, mapO, treeL, AVal.tree, AVal.flatT, isFlat, ares, isFz, afroz, afrozB, lookupA, lookupH, tops, if_true, if_false, reduceCtorEq, forall_const, ite_true, ite_false, implies_true, walkS, tabS, Try.results7, klt, k1, hne4, hn4, famS, famS2, famS3, gk, fk, sl, tk2, tk3, len_mapC]
    refine callX (denx_compactI (sortI rs[k]) (by omega)) (by simp (config := { maxSteps := 1000000 }) +decide only [NoH, Old, OldL, nilQ, nilA, RechL, ReY, isNew, stepO, XPost, postN, XOk, updN, updU, isEff, avalue, aeff, ASt.eval, ASt.put, ASt.set, ASt.new, Nat.reduceDiv, Nat.reduceAdd, Int.reduceToNat, absV, absC, scalar, alen, acap, conc, flats, live, blkOf, aload, rd, part?, afieldAddr, afield, aindexAddr, cellsOf, afill, places, abuild, optI, asliceV, asliceS, szOk, srcCells, aappend, astore, amakeSlice, abuildSlice, snapL, mapO, treeL, AVal.tree, AVal.flatT, isFlat, ares, isFz, afroz, afrozB, lookupA, lookupH, tops, if_true, if_false, reduceCtorEq, forall_const, ite_true, ite_false, implies_true, walkS, tabS, Try.results7, famS, famS2, famS3, hne4, hn4, gk, fk, sl, tk2, tk3, len_mapC]) ?_
    simp (config := { maxSteps := 1000000 }) +decide only [NoH, Old, OldL, nilQ, nilA, RechL, ReY, isNew, stepO, XPost, postN, XOk, updN, updU, isEff, avalue, aeff, ASt.eval, ASt.put, ASt.set, ASt.new, Nat.reduceDiv, Nat.reduceAdd, Int.reduceToNat, absV, absC, scalar, alen, acap, conc, flats, live, blkOf, aload, rd, part?, afieldAddr, afield, aindexAddr, cellsOf, afill, places, abuild, optI, asliceV, asliceS, szOk, srcCells, aappend, astore, amakeSlice, abuildSlice, snapL, mapO, treeL, AVal.tree, AVal.flatT, isFlat, ares, isFz, afroz, afrozB, lookupA, lookupH, tops, if_true, if_false, reduceCtorEq, forall_const, ite_true, ite_false, implies_true, walkS, tabS, Try.results7, klt, k1, hw, hne4, hn4, famS, famS2, famS3, gk, fk, sl, tk2, tk3, len_mapC, hq, hL, hrn]
    refine ⟨⟨(k + 1, upd gs k (G + 1), G + 2, rs.set k (plK (Q k) n)), klt, adS_step hS'⟩, ?_, by show n - (k + 1) < n - k; omega⟩
    refine weak_mk rfl (by first | exact Nat.le_refl _ | (simp only [mk_gen]; omega)) ?_ ?_ <;> simp +decide only [w_lookup_nil, w_lookup_cons, ch_ch, ch_lit, lit_ch, wkT, wkH, wkB, WVL, WV_refl', Int.natCast_zero, Int.natCast_add, Int.natCast_one, Nat.sub_self, Nat.sub_zero, List.replicate_zero, List.take_zero, List.nil_append, List.append_nil, fillC_zero, Nat.reduceDiv, Nat.reduceAdd, upd_bk, bk_at, getB_zero, getB_succ, modB_zero, modB_succ, rows_lit, repB_zero, repB_succ, List.length_cons, List.length_nil, upd_upd_same, upd_apply, mk_tmp, mk_heap, mk_gen, lookupA, lookupH, List.getD_cons_zero, List.getD_cons_succ, init_two, tops, Bool.true_and, and_self, and_true, true_and, true_or, if_true, if_false, ite_true, ite_false, reduceCtorEq, reduceIte, hne4, hn4, famS, famS2, famS3, hL, hq]
    refine fam_all fun j hj => ?_
    have hj2 : j < rs.length := by simpa using hj
    by_cases e : j = k
    · subst e
      simp (config := { maxSteps := 1000000 }) +decide only [NoH, Old, OldL, nilQ, nilA, RechL, ReY, isNew, stepO, XPost, postN, XOk, updN, updU, isEff, avalue, aeff, ASt.eval, ASt.put, ASt.set, ASt.new, Nat.reduceDiv, Nat.reduceAdd, Int.reduceToNat, absV, absC, scalar, alen, acap, conc, flats, live, blkOf, aload, rd, part?, afieldAddr, afield, aindexAddr, cellsOf, afill, places, abuild, optI, asliceV, asliceS, szOk, srcCells, aappend, astore, amakeSlice, abuildSlice, snapL, mapO, treeL, AVal.tree, AVal.flatT, isFlat, ares, isFz, afroz, afrozB, lookupA, lookupH, tops, if_true, if_false, reduceCtorEq, forall_const, ite_true, ite_false, implies_true, walkS, tabS, Try.results7, famS, famS2, famS3, hne4, hn4, hq, List.getElem_set_self]
    · have e2 : ¬ k = j := fun h => e h.symm
      have fj := famH_at (f := AVal.i) (ν := ch 4 0) (gs := gs) hj2
      simp (config := { maxSteps := 1000000 }) +decide only [NoH, Old, OldL, nilQ, nilA, RechL, ReY, isNew, stepO, XPost, postN, XOk, updN, updU, isEff, avalue, aeff, ASt.eval, ASt.put, ASt.set, ASt.new, Nat.reduceDiv, Nat.reduceAdd, Int.reduceToNat, absV, absC, scalar, alen, acap, conc, flats, live, blkOf, aload, rd, part?, afieldAddr, afield, aindexAddr, cellsOf, afill, places, abuild, optI, asliceV, asliceS, szOk, srcCells, aappend, astore, amakeSlice, abuildSlice, snapL, mapO, treeL, AVal.tree, AVal.flatT, isFlat, ares, isFz, afroz, afrozB, lookupA, lookupH, tops, if_true, if_false, reduceCtorEq, forall_const, ite_true, ite_false, implies_true, walkS, tabS, Try.results7, famS, famS2, famS3, hne4, hn4, e, e2, fj, List.getElem_set_ne]
  have hlen := hI'.len
  have tkf := take_famC (ν := ch 4 0) (gs := gs) hlen
  have hrl : ∀ r ∈ rows, r.length ≤ 1000000 := fun r hr => by
    obtain ⟨x, hx, rfl⟩ := List.getElem_of_mem hr
    have := hI'.le x hx
    omega
  have hw : IntKind.i64.wrap ((i : Int) + 1) = ((i + 1 : Nat) : Int) := wrap64 (by omega) (by omega)
  have hww : IntKind.i64.wrap ((i : Int) + (W : Int)) = ((i + W : Nat) : Int) := wrap64 (by omega) (by omega)
  have hW0 : (W : Int) ≠ 0 := by omega
  have hmod : (((i + 1 : Nat) : Int)).tmod (W : Int) = (((i + 1) % W : Nat) : Int) := rfl
  have hsi := hsv i ilt
  by_cases hq : (i + 1) % W = 0
  · have hqI : (((i + 1) % W : Nat) : Int) = 0 := by omega
    have hI1 : AdI sv W n (2 * i + 1) rows := adI_no hI' fun x y => adjS_edge (.inl ((mod_edge (by omega)).1 hq)) x y
    by_cases hd : i + W < sv.length
    · have hd2 : ((i + W : Nat) : Int) < (sv.length : Int) := by omega
      have hsd := hsv (i + W) hd
      have hI2 : AdI sv W n (2 * (i + 1)) (meetV rows sv[i] sv[i + W]) := adI_meet (m := 2 * i + 1) hI1 (fun x y => adjS_down hd ilt x y) hsi hsd
      simp (config := { maxSteps := 1000000 }) +decide only [NoH, Old, OldL, nilQ, nilA, RechL, ReY, isNew, stepO, XPost, postN, XOk, updN, updU, isEff, avalue, aeff, ASt.eval, ASt.put, ASt.set, ASt.new, Nat.reduceDiv, Nat.reduceAdd, Int.reduceToNat, absV, absC, scalar, alen, acap, conc, flats, live, blkOf, aload, rd, part?, afieldAddr, afield, aindexAddr, cellsOf, afill, places, abuild, optI, asliceV, asliceS, szOk, srcCells, aappend, astore, amakeSlice, abuildSlice, snapL, mapO, treeL, AVal.tree, AVal.flatT, isFlat, ares, isFz, afroz, afrozB, lookupA, lookupH, tops, if_true, if_false, reduceCtorEq, forall_const, ite_true, ite_false, implies_true, walkS, tabS, Try.results7, hw, hmod, sem_rem, hW0, eq_true hqI, hww, hd, ilt, eq_true hd2, famS, famS2, famS3, hne4, hn4]
      refine callX (denx_meetV rows n (hI1).len (fun r hr => adI_row hI1 (by omega) hr) sv[i] sv[i + W] hsi hsd) (by simp (config := { maxSteps := 1000000 }) +decide only [NoH, Old, OldL, nilQ, nilA, RechL, ReY, isNew, stepO, XPost, postN, XOk, updN, updU, isEff, avalue, aeff, ASt.eval, ASt.put, ASt.set, ASt.new, Nat.reduceDiv, Nat.reduceAdd, Int.reduceToNat, absV, absC, scalar, alen, acap, conc, flats, live, blkOf, aload, rd, part?, afieldAddr, afield, aindexAddr, cellsOf, afill, places, abuild, optI, asliceV, asliceS, szOk, srcCells, aappend, astore, amakeSlice, abuildSlice, snapL, mapO, treeL, AVal.tree, AVal.flatT, isFlat, ares, isFz, afroz, afrozB, lookupA, lookupH, tops, if_true, if_false, reduceCtorEq, forall_const, ite_true, ite_false, implies_true, walkS, tabS, Try.results7, famS, famS2, famS3, hne4, hn4, hlen, tkf, len_mapC]) ?_
      generalize meetV rows sv[i] sv[i + W] = R2 at hI2 ⊢
      simp (config := { maxSteps := 1000000 }) +decide only [NoH, Old, OldL, nilQ, nilA, RechL, ReY, isNew, stepO, XPost, postN, XOk, updN, updU, isEff, avalue, aeff, ASt.eval, ASt.put, ASt.set, ASt.new, Nat.reduceDiv, Nat.reduceAdd, Int.reduceToNat, absV, absC, scalar, alen, acap, conc, flats, live, blkOf, aload, rd, part?, afieldAddr, afield, aindexAddr, cellsOf, afill, places, abuild, optI, asliceV, asliceS, szOk, srcCells, aappend, astore, amakeSlice, abuildSlice, snapL, mapO, treeL, AVal.tree, AVal.flatT, isFlat, ares, isFz, afroz, afrozB, lookupA, lookupH, tops, if_true, if_false, reduceCtorEq, forall_const, ite_true, ite_false, implies_true, walkS, tabS, Try.results7, hw, famS, famS2, famS3, hne4, hn4, hlen, tkf, len_mapC]
      refine ⟨⟨(i + 1, G, G + 1, fun _ => G, R2), ilt, hI2⟩, ?_, by show _ - (i + 1) < _ - i; omega⟩
      refine weak_mk rfl (by first | exact Nat.le_refl _ | (simp only [mk_gen]; omega)) ?_ ?_ <;> simp +decide only [w_lookup_nil, w_lookup_cons, ch_ch, ch_lit, lit_ch, wkT, wkH, wkB, WVL, WV_refl', Int.natCast_zero, Int.natCast_add, Int.natCast_one, Nat.sub_self, Nat.sub_zero, List.replicate_zero, List.take_zero, List.nil_append, List.append_nil, fillC_zero, Nat.reduceDiv, Nat.reduceAdd, upd_bk, bk_at, getB_zero, getB_succ, modB_zero, modB_succ, rows_lit, repB_zero, repB_succ, List.length_cons, List.length_nil, upd_upd_same, upd_apply, mk_tmp, mk_heap, mk_gen, lookupA, lookupH, List.getD_cons_zero, List.getD_cons_succ, init_two, tops, Bool.true_and, and_self, and_true, true_and, true_or, if_true, if_false, ite_true, ite_false, reduceCtorEq, reduceIte, famS, famS2, famS3, hne4, hn4]
      refine fam_all fun j hj => ?_
      simp (config := { maxSteps := 1000000 }) +decide only [NoH, Old, OldL, nilQ, nilA, RechL, ReY, isNew, stepO, XPost, postN, XOk, updN, updU, isEff, avalue, aeff, ASt.eval, ASt.put, ASt.set, ASt.new, Nat.reduceDiv, Nat.reduceAdd, Int.reduceToNat, absV, absC, scalar, alen, acap, conc, flats, live, blkOf, aload, rd, part?, afieldAddr, afield, aindexAddr, cellsOf, afill, places, abuild, optI, asliceV, asliceS, szOk, srcCells, aappend, astore, amakeSlice, abuildSlice, snapL, mapO, treeL, AVal.tree, AVal.flatT, isFlat, ares, isFz, afroz, afrozB, lookupA, lookupH, tops, if_true, if_false, reduceCtorEq, forall_const, ite_true, ite_false, implies_true, walkS, tabS, Try.results7, famS, famS2, famS3, hne4, hn4, updU_at hj]
    · have hd2 : ¬ ((i + W : Nat) : Int) < (sv.length : Int) := by omega
      have hI2 : AdI sv W n (2 * (i + 1)) rows := adI_no (m := 2 * i + 1) hI1 fun x y => adjS_low hd x y
      simp (config := { maxSteps := 1000000 }) +decide only [NoH, Old, OldL, nilQ, nilA, RechL, ReY, isNew, stepO, XPost, postN, XOk, updN, updU, isEff, avalue, aeff, ASt.eval, ASt.put, ASt.set, ASt.new, Nat.reduceDiv, Nat.reduceAdd, Int.reduceToNat, absV, absC, scalar, alen, acap, conc, flats, live, blkOf, aload, rd, part?, afieldAddr, afield, aindexAddr, cellsOf, afill, places, abuild, optI, asliceV, asliceS, szOk, srcCells, aappend, astore, amakeSlice, abuildSlice, snapL, mapO, treeL, AVal.tree, AVal.flatT, isFlat, ares, isFz, afroz, afrozB, lookupA, lookupH, tops, if_true, if_false, reduceCtorEq, forall_const, ite_true, ite_false, implies_true, walkS, tabS, Try.results7, hw, hmod, sem_rem, hW0, eq_true hqI, hw, hww, ilt, eq_false hd2, famS, famS2, famS3, hne4, hn4]
      refine ⟨⟨(i + 1, g, G, gs, rows), ilt, hI2⟩, ?_, by show _ - (i + 1) < _ - i; omega⟩
      refine weak_mk rfl (by first | exact Nat.le_refl _ | (simp only [mk_gen]; omega)) ?_ ?_ <;> simp +decide only [w_lookup_nil, w_lookup_cons, ch_ch, ch_lit, lit_ch, wkT, wkH, wkB, WVL, WV_refl', Int.natCast_zero, Int.natCast_add, Int.natCast_one, Nat.sub_self, Nat.sub_zero, List.replicate_zero, List.take_zero, List.nil_append, List.append_nil, fillC_zero, Nat.reduceDiv, Nat.reduceAdd, upd_bk, bk_at, getB_zero, getB_succ, modB_zero, modB_succ, rows_lit, repB_zero, repB_succ, List.length_cons, List.length_nil, upd_upd_same, upd_apply, mk_tmp, mk_heap, mk_gen, lookupA, lookupH, List.getD_cons_zero, List.getD_cons_succ, init_two, tops, Bool.true_and, and_self, and_true, true_and, true_or, if_true, if_false, ite_true, ite_false, reduceCtorEq, reduceIte, famS, famS2, famS3, hne4, hn4]
      refine fam_all fun j hj => ?_
      simp (config := { maxSteps := 1000000 }) +decide only [NoH, Old, OldL, nilQ, nilA, RechL, ReY, isNew, stepO, XPost, postN, XOk, updN, updU, isEff, avalue, aeff, ASt.eval, ASt.put, ASt.set, ASt.new, Nat.reduceDiv, Nat.reduceAdd, Int.reduceToNat, absV, absC, scalar, alen, acap, conc, flats, live, blkOf, aload, rd, part?, afieldAddr, afield, aindexAddr, cellsOf, afill, places, abuild, optI, asliceV, asliceS, szOk, srcCells, aappend, astore, amakeSlice, abuildSlice, snapL, mapO, treeL, AVal.tree, AVal.flatT, isFlat, ares, isFz, afroz, afrozB, lookupA, lookupH, tops, if_true, if_false, reduceCtorEq, forall_const, ite_true, ite_false, implies_true, walkS, tabS, Try.results7, famS, famS2, famS3, hne4, hn4, famH_at (f := AVal.i) (ν := ch 4 0) (gs := gs) hj]
  · have hqI : ¬ (((i + 1) % W : Nat) : Int) = 0 := by omega
    have hlenW : (sv.length : Int) = W * h := h1.2.1
    have klt : i + 1 < sv.length := by
      refine Classical.byContradiction fun hc => hq ?_
      have e : i + 1 = sv.length := by omega
      have : W ∣ sv.length := by
        have : (W : Int) ∣ (sv.length : Int) := ⟨h, hlenW⟩
        exact Int.natCast_dvd_natCast.1 this
      rw [e]
      exact Nat.mod_eq_zero_of_dvd this
    have hsk := hsv (i + 1) klt
    have hI1 : AdI sv W n (2 * i + 1) (meetV rows sv[i] sv[i + 1]) := adI_meet hI' (fun x y => adjS_right klt ilt (fun h => hq ((mod_edge (by omega)).2 h)) x y) hsi hsk
    simp (config := { maxSteps := 1000000 }) +decide only [NoH, Old, OldL, nilQ, nilA, RechL, ReY, isNew, stepO, XPost, postN, XOk, updN, updU, isEff, avalue, aeff, ASt.eval, ASt.put, ASt.set, ASt.new, Nat.reduceDiv, Nat.reduceAdd, Int.reduceToNat, absV, absC, scalar, alen, acap, conc, flats, live, blkOf, aload, rd, part?, afieldAddr, afield, aindexAddr, cellsOf, afill, places, abuild, optI, asliceV, asliceS, szOk, srcCells, aappend, astore, amakeSlice, abuildSlice, snapL, mapO, treeL, AVal.tree, AVal.flatT, isFlat, ares, isFz, afroz, afrozB, lookupA, lookupH, tops, if_true, if_false, reduceCtorEq, forall_const, ite_true, ite_false, implies_true, walkS, tabS, Try.results7, ilt, klt, hw, hmod, sem_rem, hW0, eq_false hqI, hne4, hn4]
    refine callX (denx_meetV rows n hlen hrl sv[i] sv[i + 1] hsi hsk) (by simp (config := { maxSteps := 1000000 }) +decide only [NoH, Old, OldL, nilQ, nilA, RechL, ReY, isNew, stepO, XPost, postN, XOk, updN, updU, isEff, avalue, aeff, ASt.eval, ASt.put, ASt.set, ASt.new, Nat.reduceDiv, Nat.reduceAdd, Int.reduceToNat, absV, absC, scalar, alen, acap, conc, flats, live, blkOf, aload, rd, part?, afieldAddr, afield, aindexAddr, cellsOf, afill, places, abuild, optI, asliceV, asliceS, szOk, srcCells, aappend, astore, amakeSlice, abuildSlice, snapL, mapO, treeL, AVal.tree, AVal.flatT, isFlat, ares, isFz, afroz, afrozB, lookupA, lookupH, tops, if_true, if_false, reduceCtorEq, forall_const, ite_true, ite_false, implies_true, walkS, tabS, Try.results7, famS, famS2, famS3, hne4, hn4, tkf, hlen, len_mapC]) ?_
    generalize meetV rows sv[i] sv[i + 1] = R1 at hI1 ⊢
    have hl1 := hI1.len
    have tk1 := take_famC (ν := ch 4 0) (gs := fun _ => G) hl1
    by_cases hd : i + W < sv.length
    · have hd2 : ((i + W : Nat) : Int) < (sv.length : Int) := by omega
      have hsd := hsv (i + W) hd
      have hI2 : AdI sv W n (2 * (i + 1)) (meetV R1 sv[i] sv[i + W]) := adI_meet (m := 2 * i + 1) hI1 (fun x y => adjS_down hd ilt x y) hsi hsd
      simp (config := { maxSteps := 1000000 }) +decide only [NoH, Old, OldL, nilQ, nilA, RechL, ReY, isNew, stepO, XPost, postN, XOk, updN, updU, isEff, avalue, aeff, ASt.eval, ASt.put, ASt.set, ASt.new, Nat.reduceDiv, Nat.reduceAdd, Int.reduceToNat, absV, absC, scalar, alen, acap, conc, flats, live, blkOf, aload, rd, part?, afieldAddr, afield, aindexAddr, cellsOf, afill, places, abuild, optI, asliceV, asliceS, szOk, srcCells, aappend, astore, amakeSlice, abuildSlice, snapL, mapO, treeL, AVal.tree, AVal.flatT, isFlat, ares, isFz, afroz, afrozB, lookupA, lookupH, tops, if_true, if_false, reduceCtorEq, forall_const, ite_true, ite_false, implies_true, walkS, tabS, Try.results7, hw, hww, hd, ilt, eq_true hd2, famS, famS2, famS3, hne4, hn4, hlen, tkf, len_mapC]
      refine callX (denx_meetV R1 n (hI1).len (fun r hr => adI_row hI1 (by omega) hr) sv[i] sv[i + W] hsi hsd) (by simp (config := { maxSteps := 1000000 }) +decide only [NoH, Old, OldL, nilQ, nilA, RechL, ReY, isNew, stepO, XPost, postN, XOk, updN, updU, isEff, avalue, aeff, ASt.eval, ASt.put, ASt.set, ASt.new, Nat.reduceDiv, Nat.reduceAdd, Int.reduceToNat, absV, absC, scalar, alen, acap, conc, flats, live, blkOf, aload, rd, part?, afieldAddr, afield, aindexAddr, cellsOf, afill, places, abuild, optI, asliceV, asliceS, szOk, srcCells, aappend, astore, amakeSlice, abuildSlice, snapL, mapO, treeL, AVal.tree, AVal.flatT, isFlat, ares, isFz, afroz, afrozB, lookupA, lookupH, tops, if_true, if_false, reduceCtorEq, forall_const, ite_true, ite_false, implies_true, walkS, tabS, Try.results7, famS, famS2, famS3, hne4, hn4, hl1, tk1, hlen, tkf, len_mapC]) ?_
      generalize meetV R1 sv[i] sv[i + W] = R2 at hI2 ⊢
      simp (config := { maxSteps := 1000000 }) +decide only [NoH, Old, OldL, nilQ, nilA, RechL, ReY, isNew, stepO, XPost, postN, XOk, updN, updU, isEff, avalue, aeff, ASt.eval, ASt.put, ASt.set, ASt.new, Nat.reduceDiv, Nat.reduceAdd, Int.reduceToNat, absV, absC, scalar, alen, acap, conc, flats, live, blkOf, aload, rd, part?, afieldAddr, afield, aindexAddr, cellsOf, afill, places, abuild, optI, asliceV, asliceS, szOk, srcCells, aappend, astore, amakeSlice, abuildSlice, snapL, mapO, treeL, AVal.tree, AVal.flatT, isFlat, ares, isFz, afroz, afrozB, lookupA, lookupH, tops, if_true, if_false, reduceCtorEq, forall_const, ite_true, ite_false, implies_true, walkS, tabS, Try.results7, hw, famS, famS2, famS3, hne4, hn4, hl1, tk1, len_mapC]
      refine ⟨⟨(i + 1, G + 1, G + 1 + 1, fun _ => G + 1, R2), ilt, hI2⟩, ?_, by show _ - (i + 1) < _ - i; omega⟩
      refine weak_mk rfl (by first | exact Nat.le_refl _ | (simp only [mk_gen]; omega)) ?_ ?_ <;> simp +decide only [w_lookup_nil, w_lookup_cons, ch_ch, ch_lit, lit_ch, wkT, wkH, wkB, WVL, WV_refl', Int.natCast_zero, Int.natCast_add, Int.natCast_one, Nat.sub_self, Nat.sub_zero, List.replicate_zero, List.take_zero, List.nil_append, List.append_nil, fillC_zero, Nat.reduceDiv, Nat.reduceAdd, upd_bk, bk_at, getB_zero, getB_succ, modB_zero, modB_succ, rows_lit, repB_zero, repB_succ, List.length_cons, List.length_nil, upd_upd_same, upd_apply, mk_tmp, mk_heap, mk_gen, lookupA, lookupH, List.getD_cons_zero, List.getD_cons_succ, init_two, tops, Bool.true_and, and_self, and_true, true_and, true_or, if_true, if_false, ite_true, ite_false, reduceCtorEq, reduceIte, famS, famS2, famS3, hne4, hn4]
      refine fam_all fun j hj => ?_
      simp (config := { maxSteps := 1000000 }) +decide only [NoH, Old, OldL, nilQ, nilA, RechL, ReY, isNew, stepO, XPost, postN, XOk, updN, updU, isEff, avalue, aeff, ASt.eval, ASt.put, ASt.set, ASt.new, Nat.reduceDiv, Nat.reduceAdd, Int.reduceToNat, absV, absC, scalar, alen, acap, conc, flats, live, blkOf, aload, rd, part?, afieldAddr, afield, aindexAddr, cellsOf, afill, places, abuild, optI, asliceV, asliceS, szOk, srcCells, aappend, astore, amakeSlice, abuildSlice, snapL, mapO, treeL, AVal.tree, AVal.flatT, isFlat, ares, isFz, afroz, afrozB, lookupA, lookupH, tops, if_true, if_false, reduceCtorEq, forall_const, ite_true, ite_false, implies_true, walkS, tabS, Try.results7, famS, famS2, famS3, hne4, hn4, updU_at hj]
    · have hd2 : ¬ ((i + W : Nat) : Int) < (sv.length : Int) := by omega
      have hI2 : AdI sv W n (2 * (i + 1)) R1 := adI_no (m := 2 * i + 1) hI1 fun x y => adjS_low hd x y
      simp (config := { maxSteps := 1000000 }) +decide only [NoH, Old, OldL, nilQ, nilA, RechL, ReY, isNew, stepO, XPost, postN, XOk, updN, updU, isEff, avalue, aeff, ASt.eval, ASt.put, ASt.set, ASt.new, Nat.reduceDiv, Nat.reduceAdd, Int.reduceToNat, absV, absC, scalar, alen, acap, conc, flats, live, blkOf, aload, rd, part?, afieldAddr, afield, aindexAddr, cellsOf, afill, places, abuild, optI, asliceV, asliceS, szOk, srcCells, aappend, astore, amakeSlice, abuildSlice, snapL, mapO, treeL, AVal.tree, AVal.flatT, isFlat, ares, isFz, afroz, afrozB, lookupA, lookupH, tops, if_true, if_false, reduceCtorEq, forall_const, ite_true, ite_false, implies_true, walkS, tabS, Try.results7, hw, hww, ilt, eq_false hd2, famS, famS2, famS3, hne4, hn4, hlen, tkf, len_mapC]
      refine ⟨⟨(i + 1, G, G + 1, fun _ => G, R1), ilt, hI2⟩, ?_, by show _ - (i + 1) < _ - i; omega⟩
      refine weak_mk rfl (by first | exact Nat.le_refl _ | (simp only [mk_gen]; omega)) ?_ ?_ <;> simp +decide only [w_lookup_nil, w_lookup_cons, ch_ch, ch_lit, lit_ch, wkT, wkH, wkB, WVL, WV_refl', Int.natCast_zero, Int.natCast_add, Int.natCast_one, Nat.sub_self, Nat.sub_zero, List.replicate_zero, List.take_zero, List.nil_append, List.append_nil, fillC_zero, Nat.reduceDiv, Nat.reduceAdd, upd_bk, bk_at, getB_zero, getB_succ, modB_zero, modB_succ, rows_lit, repB_zero, repB_succ, List.length_cons, List.length_nil, upd_upd_same, upd_apply, mk_tmp, mk_heap, mk_gen, lookupA, lookupH, List.getD_cons_zero, List.getD_cons_succ, init_two, tops, Bool.true_and, and_self, and_true, true_and, true_or, if_true, if_false, ite_true, ite_false, reduceCtorEq, reduceIte, famS, famS2, famS3, hne4, hn4]
      refine fam_all fun j hj => ?_
      simp (config := { maxSteps := 1000000 }) +decide only [NoH, Old, OldL, nilQ, nilA, RechL, ReY, isNew, stepO, XPost, postN, XOk, updN, updU, isEff, avalue, aeff, ASt.eval, ASt.put, ASt.set, ASt.new, Nat.reduceDiv, Nat.reduceAdd, Int.reduceToNat, absV, absC, scalar, alen, acap, conc, flats, live, blkOf, aload, rd, part?, afieldAddr, afield, aindexAddr, cellsOf, afill, places, abuild, optI, asliceV, asliceS, szOk, srcCells, aappend, astore, amakeSlice, abuildSlice, snapL, mapO, treeL, AVal.tree, AVal.flatT, isFlat, ares, isFz, afroz, afrozB, lookupA, lookupH, tops, if_true, if_false, reduceCtorEq, forall_const, ite_true, ite_false, implies_true, walkS, tabS, Try.results7, famS, famS2, famS3, hne4, hn4, updU_at hj]
end Go.Proofs.Ytlcijhpjbkekpaa
