/-
  OWN WORK: the search for the clique with the most items: the items lie apart, no other clique has more.
-/
import Derived.Test.YteempjinbolkaaaPrD
namespace Go.Proofs.Yteempjinbolkaaa
open Go Go.Own Go.Proofs
set_option maxHeartbeats 4000000
set_option maxRecDepth 20000
set_option linter.unusedSimpArgs false
theorem one_0 : one [] = AVal.tup [] := rfl
/-- how far two items must lie apart -/
def ap (A : List (List Int)) (x y : Int) : Int := (A.getD x.toNat []).getD y.toNat 0
structure Clq (A : List (List Int)) (d : Int) (ch : List Int) : Prop where
  pw : ch.Pairwise fun x y => x < y ∧ d ≤ ap A x y
  rg : ∀ x ∈ ch, 0 ≤ x ∧ x < A.length
theorem clq_nil (A : List (List Int)) (d : Int) : Clq A d [] := ⟨List.Pairwise.nil, by simp⟩
theorem clq_snoc {A : List (List Int)} {d : Int} {ch : List Int} {c : Int} : Clq A d (ch ++ [c]) ↔ Clq A d ch ∧ (0 ≤ c ∧ c < A.length) ∧ ∀ x ∈ ch, x < c ∧ d ≤ ap A x c := by
  constructor
  · rintro ⟨h1, h2⟩
    obtain ⟨a, _, b⟩ := List.pairwise_append.1 h1
    exact ⟨⟨a, fun x hx => h2 x (by simp [hx])⟩, h2 c (by simp), fun x hx => b x hx c (by simp)⟩
  · rintro ⟨⟨h1, h2⟩, h3, h4⟩
    refine ⟨List.pairwise_append.2 ⟨h1, by simp, fun x hx y hy => ?_⟩, fun x hx => ?_⟩
    · simp only [List.mem_singleton] at hy
      subst hy
      exact h4 x hx
    · rcases List.mem_append.1 hx with h | h
      · exact h2 x h
      · simp only [List.mem_singleton] at h
        subst h
        exact h3
theorem clq_pre {A : List (List Int)} {d : Int} {ch K : List Int} (h : Clq A d (ch ++ K)) : Clq A d ch :=
  ⟨(List.pairwise_append.1 h.pw).1, fun x hx => h.rg x (by simp [hx])⟩
/-- the first item that may come next -/
def nxt (ch : List Int) : Nat := match ch.getLast? with
  | some c => c.toNat + 1
  | none => 0
theorem nxt_nil : nxt [] = 0 := rfl
theorem nxt_snoc (ch : List Int) (c : Nat) : nxt (ch ++ [(c : Int)]) = c + 1 := by simp [nxt]
theorem lt_nxt {A : List (List Int)} {d : Int} {ch : List Int} (h : Clq A d ch) : ∀ x ∈ ch, x < nxt ch := by
  intro x hx
  have hne : ch ≠ [] := List.ne_nil_of_mem hx
  obtain ⟨l, c, rfl⟩ : ∃ l c, ch = l ++ [c] := ⟨ch.dropLast, ch.getLast hne, (List.dropLast_concat_getLast hne).symm⟩
  obtain ⟨_, h2, h3⟩ := clq_snoc.1 h
  have e : nxt (l ++ [c]) = c.toNat + 1 := by simp [nxt]
  rw [e]
  rcases List.mem_append.1 hx with h | h
  · have := (h3 x h).1
    omega
  · simp only [List.mem_singleton] at h
    subst h
    omega
theorem nxt_le {A : List (List Int)} {d : Int} {ch : List Int} (h : Clq A d ch) : nxt ch ≤ A.length := by
  unfold nxt
  split
  · rename_i c hc
    have := h.rg c (List.mem_of_getLast? hc)
    omega
  · exact Nat.zero_le _
theorem len_le_nxt {A : List (List Int)} {d : Int} : ∀ {ch : List Int}, Clq A d ch → ch.length ≤ nxt ch := by
  intro ch
  induction hn : ch.length generalizing ch with
  | zero => intro _; exact Nat.zero_le _
  | succ n ih =>
    intro h
    have hne : ch ≠ [] := fun e => by rw [e] at hn; simp at hn
    obtain ⟨l, c, rfl⟩ : ∃ l c, ch = l ++ [c] := ⟨ch.dropLast, ch.getLast hne, (List.dropLast_concat_getLast hne).symm⟩
    obtain ⟨h1, h2, h3⟩ := clq_snoc.1 h
    have e : nxt (l ++ [c]) = c.toNat + 1 := by simp [nxt]
    have hl : l.length = n := by simpa using hn
    have := ih hl h1
    rw [e]
    by_cases e0 : l = []
    · subst e0
      simp only [List.length_nil] at hl
      omega
    · have hne2 : l.getLast? = some (l.getLast e0) := List.getLast?_eq_some_getLast e0
      have e2 : nxt l = (l.getLast e0).toNat + 1 := by simp [nxt, hne2]
      have := h3 _ (List.getLast_mem e0)
      have := h1.rg _ (List.getLast_mem e0)
      omega
/-- a search's state in memory -/
abbrev vT (D A : List (List Int)) (d : Int) (ch : List Int) (b : Int) (best : List Int) : XT := .op [.v (intss D), .v (intss A), xi d, xi b, xints ch, xints best]
abbrev CS := Int × List Int
/-- what a visit does -/
structure Vis (A : List (List Int)) (d : Int) (ch : List Int) (b : Int) (best : List Int) (r : CS) : Prop where
  lo : b - ((2 ^ (A.length - nxt ch) : Nat) : Int) ≤ r.1
  hi : r.1 ≤ b
  clq : Clq A d r.2
  mono : best.length ≤ r.2.length
  most : ∀ K, Clq A d (ch ++ K) → (ch ++ K).length ≤ r.2.length
theorem nxt_at {A : List (List Int)} {d : Int} {ch : List Int} (h : Clq A d ch) (h0 : 0 < ch.length) : ∃ m : Nat, nxt ch = m + 1 ∧ ch[ch.length - 1]'(by omega) = m := by
  have hlt : ch.length - 1 < ch.length := by omega
  have hr := h.rg _ (List.getElem_mem hlt)
  refine ⟨(ch[ch.length - 1]).toNat, ?_, by omega⟩
  unfold nxt
  rw [List.getLast?_eq_getElem?, List.getElem?_eq_getElem hlt]
/-- what holds when all items before 'c' were tried -/
structure VisI (A : List (List Int)) (d : Int) (ch : List Int) (b : Int) (best : List Int) (c : Nat) (r : CS) : Prop where
  lo : b - 1 - ((2 ^ (A.length - nxt ch) : Nat) : Int) + ((2 ^ (A.length - c) : Nat) : Int) ≤ r.1
  hi : r.1 ≤ b - 1
  clq : Clq A d r.2
  mono : best.length ≤ r.2.length
  own : ch.length ≤ r.2.length
  most : ∀ (y : Int) K, y < c → Clq A d (ch ++ y :: K) → (ch ++ y :: K).length ≤ r.2.length
theorem visI_start {A : List (List Int)} {d : Int} {ch : List Int} {b : Int} {best B0 : List Int} (hch : Clq A d ch) (h1 : Clq A d B0) (h2 : best.length ≤ B0.length) (h3 : ch.length ≤ B0.length) : VisI A d ch b best (nxt ch) (b - 1, B0) := by
  refine ⟨by show _ ≤ b - 1; omega, Int.le_refl _, h1, h2, h3, fun y K hy hK => ?_⟩
  exfalso
  have hK1 : Clq A d ((ch ++ [y]) ++ K) := by simpa using hK
  obtain ⟨_, g2, g3⟩ := clq_snoc.1 (clq_pre hK1)
  by_cases h0 : 0 < ch.length
  · obtain ⟨m, e1, e2⟩ := nxt_at hch h0
    have := (g3 _ (List.getElem_mem (show ch.length - 1 < ch.length by omega))).1
    omega
  · have e : ch = [] := List.eq_nil_of_length_eq_zero (by omega)
    subst e
    rw [nxt_nil] at hy
    omega
theorem pow_step {n c : Nat} (h : c < n) : ((2 ^ (n - c) : Nat) : Int) = 2 * ((2 ^ (n - (c + 1)) : Nat) : Int) := by
  rw [show n - c = (n - (c + 1)) + 1 by omega, Nat.pow_succ]
  omega
theorem visI_skip {A : List (List Int)} {d : Int} {ch : List Int} {b : Int} {best : List Int} {c : Nat} {r : CS} (h : VisI A d ch b best c r) (hc : c < A.length) (hq : ¬ Clq A d (ch ++ [(c : Int)])) : VisI A d ch b best (c + 1) r := by
  refine ⟨?_, h.hi, h.clq, h.mono, h.own, fun y K hy hK => ?_⟩
  · have h1 := h.lo
    have h2 := pow_step hc
    have h3 : 1 ≤ 2 ^ (A.length - (c + 1)) := Nat.one_le_two_pow
    omega
  · by_cases e : y = c
    · subst e
      have hK1 : Clq A d ((ch ++ [(c : Int)]) ++ K) := by simpa using hK
      exact (hq (clq_pre hK1)).elim
    · exact h.most y K (by omega) hK
theorem visI_take {A : List (List Int)} {d : Int} {ch : List Int} {b : Int} {best : List Int} {c : Nat} {r r' : CS} (h : VisI A d ch b best c r) (hc : c < A.length) (hv : Vis A d (ch ++ [(c : Int)]) r.1 r.2 r') : VisI A d ch b best (c + 1) r' := by
  have h1 := h.lo
  have h2 := pow_step hc
  have h4 := hv.lo
  rw [nxt_snoc] at h4
  have h5 := hv.hi
  have h6 := h.hi
  have h7 := hv.mono
  refine ⟨by omega, by omega, hv.clq, Nat.le_trans h.mono h7, Nat.le_trans h.own h7, fun y K hy hK => ?_⟩
  by_cases e : y = c
  · subst e
    have := hv.most K (by simpa using hK)
    simpa using this
  · exact Nat.le_trans (h.most y K (by omega) hK) h7
theorem visI_end {A : List (List Int)} {d : Int} {ch : List Int} {b : Int} {best : List Int} {r : CS} (h : VisI A d ch b best A.length r) : Vis A d ch b best r := by
  have h1 := h.lo
  have h6 := h.hi
  rw [Nat.sub_self, Nat.pow_zero] at h1
  refine ⟨by omega, by omega, h.clq, h.mono, fun K hK => ?_⟩
  cases K with
  | nil => simpa using h.own
  | cons y K => exact h.most y K (hK.rg y (by simp)).2 hK
theorem den_visit1 {D A : List (List Int)} (h : PrD D A) (d b : Int) (ch best : List Int) (x : Int) (c : Nat) (h0 : 0 ≤ x) (h1 : x < A.length) (hc : c < A.length) : Den Try.prog 101 [.i x, .iptr [.iptr [intss D, intss A, .i d, .i b, ints ch, ints best] 0] 0, .iptr [.i c] 0] (.b (bp (ap A x c < d))) := by
  obtain ⟨n, rfl⟩ := Int.eq_ofNat_of_zero_le h0
  refine den_of_awp Try.func101 rfl (by kernel_rfl) (Nat.le_of_ble_eq_true rfl) (by simp only [treeL, AVal.tree, treeL_i, treeL_ints, treeL_u8, treeL_append, Bool.and_self, Bool.and_true, Bool.true_and]) (by first | rfl | simp only [treeL, AVal.tree, treeL_i, treeL_ints, treeL_u8, treeL_append, Bool.and_self, Bool.and_true, Bool.true_and]) mixed (by kernel_rfl) fun hl => ?_
  simp only [lensL, lens, lensL_i, lensL_mapC, maxI, and_true, true_and] at hl
  rw [Try.ntmps101]
  refine ex_start ?_
  have hn : n < A.length := by omega
  have hr := h.rl hn
  have hl := h.len
  have hcr : c < A[n].length := by omega
  have e : ap A (n : Int) (c : Int) = A[n][c] := by
    unfold ap
    rw [Int.toNat_natCast, Int.toNat_natCast]
    exact gdd hn hcr
  rw [e]
  simp (config := { maxSteps := 1000000 }) +decide only [NoH, Old, OldL, nilQ, nilA, RechL, ReY, isNew, stepO, XPost, postN, XOk, updN, updU, isEff, avalue, aeff, ASt.eval, ASt.put, ASt.set, ASt.new, Nat.reduceDiv, Nat.reduceAdd, Int.reduceToNat, absV, absC, scalar, alen, acap, conc, flats, live, blkOf, aload, rd, part?, afieldAddr, afield, aindexAddr, cellsOf, afill, places, abuild, optI, asliceV, asliceS, szOk, srcCells, aappend, astore, amakeSlice, abuildSlice, snapL, mapO, treeL, AVal.tree, AVal.flatT, isFlat, ares, isFz, afroz, afrozB, lookupA, lookupH, tops, if_true, if_false, reduceCtorEq, forall_const, ite_true, ite_false, implies_true, walkS, tabS, Try.results101, hn, hcr]
  exact (bp_decide _).symm
theorem deny_visitStep {D A : List (List Int)} (h : PrD D A) (d : Int) (f : Nat)
    (ih : ∀ (ch : List Int) (b : Int) (best : List Int), A.length - nxt ch < f → Clq A d ch → Clq A d best → ((2 ^ (A.length - nxt ch) : Nat) : Int) ≤ b → b ≤ 20000 → DenY Try.prog 47 [vT D A d ch b best] (Vis A d ch b best) (fun r => [vT D A d ch r.1 r.2]) (fun _ => .tup []))
    (ch : List Int) (b : Int) (best : List Int) (hf : A.length - nxt ch < f + 1) (hch : Clq A d ch) (hbe : Clq A d best) (hb0 : ((2 ^ (A.length - nxt ch) : Nat) : Int) ≤ b) (hb1 : b ≤ 20000) :
    DenY Try.prog 47 [vT D A d ch b best] (Vis A d ch b best) (fun r => [vT D A d ch r.1 r.2]) (fun _ => .tup []) := by
  have hn6 := h.few
  have hl := h.len
  have hnx := nxt_le hch
  have hcl := len_le_nxt hch
  have hbl := len_le_nxt hbe
  have hbn := nxt_le hbe
  have hp1 : 1 ≤ 2 ^ (A.length - nxt ch) := Nat.one_le_two_pow
  have hw0 : IntKind.i64.wrap (b - 1) = b - 1 := wrap64 (by omega) (by omega)
  have hbn0 : ¬ b - 1 < 0 := by omega
  have htk : List.take ch.length ch = ch := List.take_of_length_le (by omega)
  have htb : List.take best.length best = best := List.take_of_length_le (by omega)
  refine denY_of_awpG (ghs [(31, Own.ch 0 5)] [75]) Try.func47 rfl (by kernel_rfl) (Nat.le_of_ble_eq_true rfl) (by simp +decide only [w_embA_nil, w_embA_cons, w_emb_v, w_emb_ol, w_emb_op, w_emb_agg, w_emb_tup, w_embL_nil, w_embL_cons, embL_i, List.map_cons, List.map_nil, List.nil_append, List.append_nil, List.cons_append, List.nodup_cons, List.nodup_nil, List.mem_cons, List.mem_nil_iff, List.not_mem_nil, ch_ch, ch_lit, lit_ch, Nat.reduceAdd]) mixed (by kernel_rfl) fun hl => ?_
  simp only [xlensL, xlens, lensL, lens, lensL_i, lensL_mapC, xlensL_i, maxI, and_true, true_and] at hl
  rw [Try.ntmps47]
  refine ex_start ?_
  simp (config := { maxSteps := 1000000 }) +decide only [NoH, Old, OldL, nilQ, nilA, RechL, ReY, isNew, stepO, XPost, postN, XOk, updN, updU, isEff, avalue, aeff, ASt.eval, ASt.put, ASt.set, ASt.new, Nat.reduceDiv, Nat.reduceAdd, Int.reduceToNat, absV, absC, scalar, alen, acap, conc, flats, live, blkOf, aload, rd, part?, afieldAddr, afield, aindexAddr, cellsOf, afill, places, abuild, optI, asliceV, asliceS, szOk, srcCells, aappend, astore, amakeSlice, abuildSlice, snapL, mapO, treeL, AVal.tree, AVal.flatT, isFlat, ares, isFz, afroz, afrozB, lookupA, lookupH, tops, if_true, if_false, reduceCtorEq, forall_const, ite_true, ite_false, implies_true, walkS, tabS, Try.results47, hw0, eq_false hbn0, htk, htb]
  by_cases hc : best.length < ch.length
  case' pos =>
    obtain ⟨B0, eB⟩ : ∃ B0 : List Int, B0 = ch := ⟨_, rfl⟩
    have q1 : Clq A d B0 ∧ best.length ≤ B0.length ∧ ch.length ≤ B0.length := by rw [eB]; exact ⟨hch, by omega, Nat.le_refl _⟩
    obtain ⟨g5, g2, G, e5, e2, eG⟩ : ∃ g5 g2 G : Nat, g5 = 2 ∧ g2 = 3 ∧ G = 4 := ⟨_, _, _, rfl, rfl, rfl⟩
    simp (config := { maxSteps := 1000000 }) +decide only [NoH, Old, OldL, nilQ, nilA, RechL, ReY, isNew, stepO, XPost, postN, XOk, updN, updU, isEff, avalue, aeff, ASt.eval, ASt.put, ASt.set, ASt.new, Nat.reduceDiv, Nat.reduceAdd, Int.reduceToNat, absV, absC, scalar, alen, acap, conc, flats, live, blkOf, aload, rd, part?, afieldAddr, afield, aindexAddr, cellsOf, afill, places, abuild, optI, asliceV, asliceS, szOk, srcCells, aappend, astore, amakeSlice, abuildSlice, snapL, mapO, treeL, AVal.tree, AVal.flatT, isFlat, ares, isFz, afroz, afrozB, lookupA, lookupH, tops, if_true, if_false, reduceCtorEq, forall_const, ite_true, ite_false, implies_true, walkS, tabS, Try.results47, eq_true hc]
    refine callX (denx_Clone ch (by omega)) (by simp (config := { maxSteps := 1000000 }) +decide only [NoH, Old, OldL, nilQ, nilA, RechL, ReY, isNew, stepO, XPost, postN, XOk, updN, updU, isEff, avalue, aeff, ASt.eval, ASt.put, ASt.set, ASt.new, Nat.reduceDiv, Nat.reduceAdd, Int.reduceToNat, absV, absC, scalar, alen, acap, conc, flats, live, blkOf, aload, rd, part?, afieldAddr, afield, aindexAddr, cellsOf, afill, places, abuild, optI, asliceV, asliceS, szOk, srcCells, aappend, astore, amakeSlice, abuildSlice, snapL, mapO, treeL, AVal.tree, AVal.flatT, isFlat, ares, isFz, afroz, afrozB, lookupA, lookupH, tops, if_true, if_false, reduceCtorEq, forall_const, ite_true, ite_false, implies_true, walkS, tabS, Try.results47, htk, htb]) ?_
    simp (config := { maxSteps := 1000000 }) +decide only [NoH, Old, OldL, nilQ, nilA, RechL, ReY, isNew, stepO, XPost, postN, XOk, updN, updU, isEff, avalue, aeff, ASt.eval, ASt.put, ASt.set, ASt.new, Nat.reduceDiv, Nat.reduceAdd, Int.reduceToNat, absV, absC, scalar, alen, acap, conc, flats, live, blkOf, aload, rd, part?, afieldAddr, afield, aindexAddr, cellsOf, afill, places, abuild, optI, asliceV, asliceS, szOk, srcCells, aappend, astore, amakeSlice, abuildSlice, snapL, mapO, treeL, AVal.tree, AVal.flatT, isFlat, ares, isFz, afroz, afrozB, lookupA, lookupH, tops, if_true, if_false, reduceCtorEq, forall_const, ite_true, ite_false, implies_true, walkS, tabS, Try.results47, htk, htb]
  case' neg =>
    obtain ⟨B0, eB⟩ : ∃ B0 : List Int, B0 = best := ⟨_, rfl⟩
    have q1 : Clq A d B0 ∧ best.length ≤ B0.length ∧ ch.length ≤ B0.length := by rw [eB]; exact ⟨hbe, Nat.le_refl _, by omega⟩
    obtain ⟨g5, g2, G, e5, e2, eG⟩ : ∃ g5 g2 G : Nat, g5 = 0 ∧ g2 = 2 ∧ G = 3 := ⟨_, _, _, rfl, rfl, rfl⟩
    simp (config := { maxSteps := 1000000 }) +decide only [NoH, Old, OldL, nilQ, nilA, RechL, ReY, isNew, stepO, XPost, postN, XOk, updN, updU, isEff, avalue, aeff, ASt.eval, ASt.put, ASt.set, ASt.new, Nat.reduceDiv, Nat.reduceAdd, Int.reduceToNat, absV, absC, scalar, alen, acap, conc, flats, live, blkOf, aload, rd, part?, afieldAddr, afield, aindexAddr, cellsOf, afill, places, abuild, optI, asliceV, asliceS, szOk, srcCells, aappend, astore, amakeSlice, abuildSlice, snapL, mapO, treeL, AVal.tree, AVal.flatT, isFlat, ares, isFz, afroz, afrozB, lookupA, lookupH, tops, if_true, if_false, reduceCtorEq, forall_const, ite_true, ite_false, implies_true, walkS, tabS, Try.results47, eq_false hc, htk, htb]
  all_goals
    rcases Nat.eq_zero_or_pos ch.length with h0 | h0
    · have e0 : ch = [] := List.eq_nil_of_length_eq_zero h0
      have hN : nxt ch = 0 := by rw [e0]; rfl
      have h0I : ¬ (0 : Int) < (ch.length : Int) := by omega
      simp (config := { maxSteps := 1000000 }) +decide only [NoH, Old, OldL, nilQ, nilA, RechL, ReY, isNew, stepO, XPost, postN, XOk, updN, updU, isEff, avalue, aeff, ASt.eval, ASt.put, ASt.set, ASt.new, Nat.reduceDiv, Nat.reduceAdd, Int.reduceToNat, absV, absC, scalar, alen, acap, conc, flats, live, blkOf, aload, rd, part?, afieldAddr, afield, aindexAddr, cellsOf, afill, places, abuild, optI, asliceV, asliceS, szOk, srcCells, aappend, astore, amakeSlice, abuildSlice, snapL, mapO, treeL, AVal.tree, AVal.flatT, isFlat, ares, isFz, afroz, afrozB, lookupA, lookupH, tops, if_true, if_false, reduceCtorEq, forall_const, ite_true, ite_false, implies_true, walkS, tabS, Try.results47, eq_false h0I]
      refine ex_loop (fun p : {p : Nat × CS × (Nat × Nat × Nat) × List Int // nxt ch ≤ p.1 ∧ p.1 ≤ A.length ∧ VisI A d ch b best p.1 p.2.1} => mkG (ghs [(31, Own.ch 0 5)] [75]) [(1, .ptr 1 1 0), (2, .ptr 2 g2 0)] [(0, ⟨0, 6, [intss D, intss A, .i d, .i p.1.2.1.1, .own (Own.ch 0 4) p.1.2.2.1.1 0 ch.length, .own (Own.ch 0 5) p.1.2.2.1.2.1 0 p.1.2.1.2.length]⟩), (1, ⟨1, 1, [.ptr 0 0 0]⟩), (2, ⟨g2, 1, [.i p.1.1]⟩), (Own.ch 0 4, ⟨p.1.2.2.1.1, 1, mapC AVal.i (ch ++ p.1.2.2.2)⟩), (Own.ch 0 5, ⟨p.1.2.2.1.2.1, 1, mapC AVal.i p.1.2.1.2⟩)] p.1.2.2.1.2.2 100) (fun p => A.length - p.1.1) ⟨(nxt ch, (b - 1, B0), (0, g5, G), []), Nat.le_refl _, hnx, visI_start hch q1.1 q1.2.1 q1.2.2⟩ ?_ ?_
      · refine weak_mk rfl (by first | exact Nat.le_refl _ | (simp only [mk_gen]; omega)) ?_ ?_ <;> simp +decide only [w_lookup_nil, w_lookup_cons, ch_ch, ch_lit, lit_ch, wkT, wkH, wkB, WVL, WV_refl', Int.natCast_zero, Int.natCast_add, Int.natCast_one, Nat.sub_self, Nat.sub_zero, List.replicate_zero, List.take_zero, List.nil_append, List.append_nil, fillC_zero, Nat.reduceDiv, Nat.reduceAdd, upd_bk, bk_at, getB_zero, getB_succ, modB_zero, modB_succ, rows_lit, repB_zero, repB_succ, List.length_cons, List.length_nil, upd_upd_same, upd_apply, mk_tmp, mk_heap, mk_gen, lookupA, lookupH, List.getD_cons_zero, List.getD_cons_succ, init_two, tops, Bool.true_and, and_self, and_true, true_and, true_or, if_true, if_false, ite_true, ite_false, reduceCtorEq, reduceIte, List.append_nil, eB, e5, e2, eG, hN]
      rintro ⟨⟨c, ⟨b1, best1⟩, ⟨g4, g6, G1⟩, tl⟩, r1, r2, r3⟩
      have c1 : nxt ch ≤ c := r1
      have c2 : c ≤ A.length := r2
      have hv : VisI A d ch b best c (b1, best1) := r3
      have v1 := hv.lo
      have v2 := hv.hi
      have v3 := len_le_nxt hv.clq
      have v4 := nxt_le hv.clq
      simp only at v1 v2 v3 v4
      have htl : List.take ch.length (ch ++ tl) = ch := by rw [List.take_append_of_le_length (Nat.le_refl _), List.take_length]
      have hll : (ch ++ tl).length = ch.length + tl.length := List.length_append
      have hts : List.take best1.length best1 = best1 := List.take_of_length_le (by omega)
      by_cases clt : c < A.length
      case neg =>
        have e : c = A.length := by omega
        have cltI : ¬ (c : Int) < (D.length : Int) := by omega
        subst e
        simp (config := { maxSteps := 1000000 }) +decide only [NoH, Old, OldL, nilQ, nilA, RechL, ReY, isNew, stepO, XPost, postN, XOk, updN, updU, isEff, avalue, aeff, ASt.eval, ASt.put, ASt.set, ASt.new, Nat.reduceDiv, Nat.reduceAdd, Int.reduceToNat, absV, absC, scalar, alen, acap, conc, flats, live, blkOf, aload, rd, part?, afieldAddr, afield, aindexAddr, cellsOf, afill, places, abuild, optI, asliceV, asliceS, szOk, srcCells, aappend, astore, amakeSlice, abuildSlice, snapL, mapO, treeL, AVal.tree, AVal.flatT, isFlat, ares, isFz, afroz, afrozB, lookupA, lookupH, tops, if_true, if_false, reduceCtorEq, forall_const, ite_true, ite_false, implies_true, walkS, tabS, Try.results47, eq_false cltI]
        refine yret (b1, best1) (visI_end hv) ?_
        simp (config := { maxSteps := 1000000 }) +decide only [NoH, Old, OldL, nilQ, nilA, RechL, ReY, isNew, stepO, XPost, postN, XOk, updN, updU, isEff, avalue, aeff, ASt.eval, ASt.put, ASt.set, ASt.new, Nat.reduceDiv, Nat.reduceAdd, Int.reduceToNat, absV, absC, scalar, alen, acap, conc, flats, live, blkOf, aload, rd, part?, afieldAddr, afield, aindexAddr, cellsOf, afill, places, abuild, optI, asliceV, asliceS, szOk, srcCells, aappend, astore, amakeSlice, abuildSlice, snapL, mapO, treeL, AVal.tree, AVal.flatT, isFlat, ares, isFz, afroz, afrozB, lookupA, lookupH, tops, if_true, if_false, reduceCtorEq, forall_const, ite_true, ite_false, implies_true, walkS, tabS, Try.results47, htl, hll, hts, one_0, Nat.le_add_right]
      have cltI : (c : Int) < (D.length : Int) := by omega
      simp (config := { maxSteps := 1000000 }) +decide only [NoH, Old, OldL, nilQ, nilA, RechL, ReY, isNew, stepO, XPost, postN, XOk, updN, updU, isEff, avalue, aeff, ASt.eval, ASt.put, ASt.set, ASt.new, Nat.reduceDiv, Nat.reduceAdd, Int.reduceToNat, absV, absC, scalar, alen, acap, conc, flats, live, blkOf, aload, rd, part?, afieldAddr, afield, aindexAddr, cellsOf, afill, places, abuild, optI, asliceV, asliceS, szOk, srcCells, aappend, astore, amakeSlice, abuildSlice, snapL, mapO, treeL, AVal.tree, AVal.flatT, isFlat, ares, isFz, afroz, afrozB, lookupA, lookupH, tops, if_true, if_false, reduceCtorEq, forall_const, ite_true, ite_false, implies_true, walkS, tabS, Try.results47, eq_true cltI, htl, hts, hll, Nat.le_add_right]
      refine callK (den_ContainsFunc ch _ _ (fun x => ap A x c < d) (by simp only [treeL, AVal.tree, treeL_i, treeL_ints, Bool.and_self]) (fun x hx => den_visit1 h d b1 ch best1 x c (hch.rg x hx).1 (hch.rg x hx).2 clt) (fun _ => by simp only [snapL, snap_iptr, treeL, AVal.tree, treeL_i, treeL_ints, Bool.and_self, if_true]) (fun _ => by simp only [mapO, snap_iptr, treeL, AVal.tree, treeL_i, treeL_ints, Bool.and_self, if_true])) (by first | exact .inl rfl | exact .inr rfl) ?_
      have hwc : IntKind.i64.wrap ((c : Int) + 1) = ((c + 1 : Nat) : Int) := wrap64 (by omega) (by omega)
      by_cases hq : ∃ x ∈ ch, ap A x c < d
      · have hn : ¬ Clq A d (ch ++ [(c : Int)]) := fun hk => by
          obtain ⟨x, hx, hl⟩ := hq
          have := ((clq_snoc.1 hk).2.2 x hx).2
          omega
        simp (config := { maxSteps := 1000000 }) +decide only [NoH, Old, OldL, nilQ, nilA, RechL, ReY, isNew, stepO, XPost, postN, XOk, updN, updU, isEff, avalue, aeff, ASt.eval, ASt.put, ASt.set, ASt.new, Nat.reduceDiv, Nat.reduceAdd, Int.reduceToNat, absV, absC, scalar, alen, acap, conc, flats, live, blkOf, aload, rd, part?, afieldAddr, afield, aindexAddr, cellsOf, afill, places, abuild, optI, asliceV, asliceS, szOk, srcCells, aappend, astore, amakeSlice, abuildSlice, snapL, mapO, treeL, AVal.tree, AVal.flatT, isFlat, ares, isFz, afroz, afrozB, lookupA, lookupH, tops, if_true, if_false, reduceCtorEq, forall_const, ite_true, ite_false, implies_true, walkS, tabS, Try.results47, eq_true hq, hwc]
        refine ⟨⟨(c + 1, (b1, best1), (g4, g6, G1), tl), by show nxt ch ≤ c + 1; omega, clt, visI_skip hv clt hn⟩, ?_, by show A.length - (c + 1) < A.length - c; omega⟩
        refine weak_mk rfl (by first | exact Nat.le_refl _ | (simp only [mk_gen]; omega)) ?_ ?_ <;> simp +decide only [w_lookup_nil, w_lookup_cons, ch_ch, ch_lit, lit_ch, wkT, wkH, wkB, WVL, WV_refl', Int.natCast_zero, Int.natCast_add, Int.natCast_one, Nat.sub_self, Nat.sub_zero, List.replicate_zero, List.take_zero, List.nil_append, List.append_nil, fillC_zero, Nat.reduceDiv, Nat.reduceAdd, upd_bk, bk_at, getB_zero, getB_succ, modB_zero, modB_succ, rows_lit, repB_zero, repB_succ, List.length_cons, List.length_nil, upd_upd_same, upd_apply, mk_tmp, mk_heap, mk_gen, lookupA, lookupH, List.getD_cons_zero, List.getD_cons_succ, init_two, tops, Bool.true_and, and_self, and_true, true_and, true_or, if_true, if_false, ite_true, ite_false, reduceCtorEq, reduceIte]
      have hk : Clq A d (ch ++ [(c : Int)]) := clq_snoc.2 ⟨hch, ⟨by omega, by omega⟩, fun x hx => ⟨by have := lt_nxt hch x hx; omega, by
        have : ¬ ap A x c < d := fun hl => hq ⟨x, hx, hl⟩
        omega⟩⟩
      have hp2 : 1 ≤ 2 ^ (A.length - (c + 1)) := Nat.one_le_two_pow
      have hp3 := pow_step clt
      have hx := ih (ch ++ [(c : Int)]) b1 best1 (by rw [nxt_snoc]; omega) hk hv.clq (by rw [nxt_snoc]; omega) (by omega)
      have h8 : (ch.length + 1) * 8 ≤ 140737488355328 := by omega
      have hlc : (ch ++ [(c : Int)]).length = ch.length + 1 := by simp
      have htc : List.take (ch.length + 1) (ch ++ [(c : Int)]) = ch ++ [(c : Int)] := List.take_of_length_le (by omega)
      have hwl : IntKind.i64.wrap (((ch.length + 1 : Nat) : Int) - 1) = (ch.length : Int) := (wrap64 (by omega) (by omega)).trans (by omega)
      have hl1 : ch.length ≤ ch.length + 1 := by omega
      have hl2 : ch.length < ch.length + 1 := by omega
      simp only [vT, xints, hlc] at hx
      simp (config := { maxSteps := 1000000 }) +decide only [NoH, Old, OldL, nilQ, nilA, RechL, ReY, isNew, stepO, XPost, postN, XOk, updN, updU, isEff, avalue, aeff, ASt.eval, ASt.put, ASt.set, ASt.new, Nat.reduceDiv, Nat.reduceAdd, Int.reduceToNat, absV, absC, scalar, alen, acap, conc, flats, live, blkOf, aload, rd, part?, afieldAddr, afield, aindexAddr, cellsOf, afill, places, abuild, optI, asliceV, asliceS, szOk, srcCells, aappend, astore, amakeSlice, abuildSlice, snapL, mapO, treeL, AVal.tree, AVal.flatT, isFlat, ares, isFz, afroz, afrozB, lookupA, lookupH, tops, if_true, if_false, reduceCtorEq, forall_const, ite_true, ite_false, implies_true, walkS, tabS, Try.results47, eq_false hq, hwc, h8, htl, hll, hts, Nat.le_add_right, List.replicate_succ, List.flatten_cons, List.flatten_nil, mapC_snoc]
      refine callY (hx) (by simp (config := { maxSteps := 1000000 }) +decide only [NoH, Old, OldL, nilQ, nilA, RechL, ReY, isNew, stepO, XPost, postN, XOk, updN, updU, isEff, avalue, aeff, ASt.eval, ASt.put, ASt.set, ASt.new, Nat.reduceDiv, Nat.reduceAdd, Int.reduceToNat, absV, absC, scalar, alen, acap, conc, flats, live, blkOf, aload, rd, part?, afieldAddr, afield, aindexAddr, cellsOf, afill, places, abuild, optI, asliceV, asliceS, szOk, srcCells, aappend, astore, amakeSlice, abuildSlice, snapL, mapO, treeL, AVal.tree, AVal.flatT, isFlat, ares, isFz, afroz, afrozB, lookupA, lookupH, tops, if_true, if_false, reduceCtorEq, forall_const, ite_true, ite_false, implies_true, walkS, tabS, Try.results47, hlc, htc, hts, htl, hl2]) (fun i hi => by simp (config := { maxSteps := 1000000 }) +decide only [NoH, Old, OldL, nilQ, nilA, RechL, ReY, isNew, stepO, XPost, postN, XOk, updN, updU, isEff, avalue, aeff, ASt.eval, ASt.put, ASt.set, ASt.new, Nat.reduceDiv, Nat.reduceAdd, Int.reduceToNat, absV, absC, scalar, alen, acap, conc, flats, live, blkOf, aload, rd, part?, afieldAddr, afield, aindexAddr, cellsOf, afill, places, abuild, optI, asliceV, asliceS, szOk, srcCells, aappend, astore, amakeSlice, abuildSlice, snapL, mapO, treeL, AVal.tree, AVal.flatT, isFlat, ares, isFz, afroz, afrozB, lookupA, lookupH, tops, if_true, if_false, reduceCtorEq, forall_const, ite_true, ite_false, implies_true, walkS, tabS, Try.results47, hlc, htc, hts, htl, hl2]) ?_
      rintro ⟨b2, best2⟩ hv2
      have hv3 : VisI A d ch b best (c + 1) (b2, best2) := visI_take hv clt hv2
      have v5 := hv3.lo
      simp only at v5
      have hb2 : ¬ b2 < 0 := by omega
      simp (config := { maxSteps := 1000000 }) +decide only [NoH, Old, OldL, nilQ, nilA, RechL, ReY, isNew, stepO, XPost, postN, XOk, updN, updU, isEff, avalue, aeff, ASt.eval, ASt.put, ASt.set, ASt.new, Nat.reduceDiv, Nat.reduceAdd, Int.reduceToNat, absV, absC, scalar, alen, acap, conc, flats, live, blkOf, aload, rd, part?, afieldAddr, afield, aindexAddr, cellsOf, afill, places, abuild, optI, asliceV, asliceS, szOk, srcCells, aappend, astore, amakeSlice, abuildSlice, snapL, mapO, treeL, AVal.tree, AVal.flatT, isFlat, ares, isFz, afroz, afrozB, lookupA, lookupH, tops, if_true, if_false, reduceCtorEq, forall_const, ite_true, ite_false, implies_true, walkS, tabS, Try.results47, eq_false hb2, hwc, hwl, hlc, htc, hl1, hl2, Nat.zero_le]
      refine ⟨⟨(c + 1, (b2, best2), (G1 + 1, G1 + 1, G1 + 2), [(c : Int)]), by show nxt ch ≤ c + 1; omega, clt, hv3⟩, ?_, by show A.length - (c + 1) < A.length - c; omega⟩
      refine weak_mk rfl (by first | exact Nat.le_refl _ | (simp only [mk_gen]; omega)) ?_ ?_ <;> simp +decide only [w_lookup_nil, w_lookup_cons, ch_ch, ch_lit, lit_ch, wkT, wkH, wkB, WVL, WV_refl', Int.natCast_zero, Int.natCast_add, Int.natCast_one, Nat.sub_self, Nat.sub_zero, List.replicate_zero, List.take_zero, List.nil_append, List.append_nil, fillC_zero, Nat.reduceDiv, Nat.reduceAdd, upd_bk, bk_at, getB_zero, getB_succ, modB_zero, modB_succ, rows_lit, repB_zero, repB_succ, List.length_cons, List.length_nil, upd_upd_same, upd_apply, mk_tmp, mk_heap, mk_gen, lookupA, lookupH, List.getD_cons_zero, List.getD_cons_succ, init_two, tops, Bool.true_and, and_self, and_true, true_and, true_or, if_true, if_false, ite_true, ite_false, reduceCtorEq, reduceIte]
    · obtain ⟨N0, hN, hgl⟩ := nxt_at hch h0
      have h0I : (0 : Int) < (ch.length : Int) := by omega
      have w1 : IntKind.i64.wrap ((ch.length : Int) - 1) = ((ch.length - 1 : Nat) : Int) := (wrap64 (by omega) (by omega)).trans (by omega)
      have w2 : IntKind.i64.wrap ((N0 : Int) + 1) = ((N0 + 1 : Nat) : Int) := wrap64 (by omega) (by omega)
      have hlt : ch.length - 1 < ch.length := by omega
      simp (config := { maxSteps := 1000000 }) +decide only [NoH, Old, OldL, nilQ, nilA, RechL, ReY, isNew, stepO, XPost, postN, XOk, updN, updU, isEff, avalue, aeff, ASt.eval, ASt.put, ASt.set, ASt.new, Nat.reduceDiv, Nat.reduceAdd, Int.reduceToNat, absV, absC, scalar, alen, acap, conc, flats, live, blkOf, aload, rd, part?, afieldAddr, afield, aindexAddr, cellsOf, afill, places, abuild, optI, asliceV, asliceS, szOk, srcCells, aappend, astore, amakeSlice, abuildSlice, snapL, mapO, treeL, AVal.tree, AVal.flatT, isFlat, ares, isFz, afroz, afrozB, lookupA, lookupH, tops, if_true, if_false, reduceCtorEq, forall_const, ite_true, ite_false, implies_true, walkS, tabS, Try.results47, eq_true h0I, w1, w2, hlt, hgl]
      refine ex_loop (fun p : {p : Nat × CS × (Nat × Nat × Nat) × List Int // nxt ch ≤ p.1 ∧ p.1 ≤ A.length ∧ VisI A d ch b best p.1 p.2.1} => mkG (ghs [(31, Own.ch 0 5)] [75]) [(1, .ptr 1 1 0), (2, .ptr 2 g2 0)] [(0, ⟨0, 6, [intss D, intss A, .i d, .i p.1.2.1.1, .own (Own.ch 0 4) p.1.2.2.1.1 0 ch.length, .own (Own.ch 0 5) p.1.2.2.1.2.1 0 p.1.2.1.2.length]⟩), (1, ⟨1, 1, [.ptr 0 0 0]⟩), (2, ⟨g2, 1, [.i p.1.1]⟩), (Own.ch 0 4, ⟨p.1.2.2.1.1, 1, mapC AVal.i (ch ++ p.1.2.2.2)⟩), (Own.ch 0 5, ⟨p.1.2.2.1.2.1, 1, mapC AVal.i p.1.2.1.2⟩)] p.1.2.2.1.2.2 100) (fun p => A.length - p.1.1) ⟨(nxt ch, (b - 1, B0), (0, g5, G), []), Nat.le_refl _, hnx, visI_start hch q1.1 q1.2.1 q1.2.2⟩ ?_ ?_
      · refine weak_mk rfl (by first | exact Nat.le_refl _ | (simp only [mk_gen]; omega)) ?_ ?_ <;> simp +decide only [w_lookup_nil, w_lookup_cons, ch_ch, ch_lit, lit_ch, wkT, wkH, wkB, WVL, WV_refl', Int.natCast_zero, Int.natCast_add, Int.natCast_one, Nat.sub_self, Nat.sub_zero, List.replicate_zero, List.take_zero, List.nil_append, List.append_nil, fillC_zero, Nat.reduceDiv, Nat.reduceAdd, upd_bk, bk_at, getB_zero, getB_succ, modB_zero, modB_succ, rows_lit, repB_zero, repB_succ, List.length_cons, List.length_nil, upd_upd_same, upd_apply, mk_tmp, mk_heap, mk_gen, lookupA, lookupH, List.getD_cons_zero, List.getD_cons_succ, init_two, tops, Bool.true_and, and_self, and_true, true_and, true_or, if_true, if_false, ite_true, ite_false, reduceCtorEq, reduceIte, List.append_nil, eB, e5, e2, eG, hN]
      rintro ⟨⟨c, ⟨b1, best1⟩, ⟨g4, g6, G1⟩, tl⟩, r1, r2, r3⟩
      have c1 : nxt ch ≤ c := r1
      have c2 : c ≤ A.length := r2
      have hv : VisI A d ch b best c (b1, best1) := r3
      have v1 := hv.lo
      have v2 := hv.hi
      have v3 := len_le_nxt hv.clq
      have v4 := nxt_le hv.clq
      simp only at v1 v2 v3 v4
      have htl : List.take ch.length (ch ++ tl) = ch := by rw [List.take_append_of_le_length (Nat.le_refl _), List.take_length]
      have hll : (ch ++ tl).length = ch.length + tl.length := List.length_append
      have hts : List.take best1.length best1 = best1 := List.take_of_length_le (by omega)
      by_cases clt : c < A.length
      case neg =>
        have e : c = A.length := by omega
        have cltI : ¬ (c : Int) < (D.length : Int) := by omega
        subst e
        simp (config := { maxSteps := 1000000 }) +decide only [NoH, Old, OldL, nilQ, nilA, RechL, ReY, isNew, stepO, XPost, postN, XOk, updN, updU, isEff, avalue, aeff, ASt.eval, ASt.put, ASt.set, ASt.new, Nat.reduceDiv, Nat.reduceAdd, Int.reduceToNat, absV, absC, scalar, alen, acap, conc, flats, live, blkOf, aload, rd, part?, afieldAddr, afield, aindexAddr, cellsOf, afill, places, abuild, optI, asliceV, asliceS, szOk, srcCells, aappend, astore, amakeSlice, abuildSlice, snapL, mapO, treeL, AVal.tree, AVal.flatT, isFlat, ares, isFz, afroz, afrozB, lookupA, lookupH, tops, if_true, if_false, reduceCtorEq, forall_const, ite_true, ite_false, implies_true, walkS, tabS, Try.results47, eq_false cltI]
        refine yret (b1, best1) (visI_end hv) ?_
        simp (config := { maxSteps := 1000000 }) +decide only [NoH, Old, OldL, nilQ, nilA, RechL, ReY, isNew, stepO, XPost, postN, XOk, updN, updU, isEff, avalue, aeff, ASt.eval, ASt.put, ASt.set, ASt.new, Nat.reduceDiv, Nat.reduceAdd, Int.reduceToNat, absV, absC, scalar, alen, acap, conc, flats, live, blkOf, aload, rd, part?, afieldAddr, afield, aindexAddr, cellsOf, afill, places, abuild, optI, asliceV, asliceS, szOk, srcCells, aappend, astore, amakeSlice, abuildSlice, snapL, mapO, treeL, AVal.tree, AVal.flatT, isFlat, ares, isFz, afroz, afrozB, lookupA, lookupH, tops, if_true, if_false, reduceCtorEq, forall_const, ite_true, ite_false, implies_true, walkS, tabS, Try.results47, htl, hll, hts, one_0, Nat.le_add_right]
      have cltI : (c : Int) < (D.length : Int) := by omega
      simp (config := { maxSteps := 1000000 }) +decide only [NoH, Old, OldL, nilQ, nilA, RechL, ReY, isNew, stepO, XPost, postN, XOk, updN, updU, isEff, avalue, aeff, ASt.eval, ASt.put, ASt.set, ASt.new, Nat.reduceDiv, Nat.reduceAdd, Int.reduceToNat, absV, absC, scalar, alen, acap, conc, flats, live, blkOf, aload, rd, part?, afieldAddr, afield, aindexAddr, cellsOf, afill, places, abuild, optI, asliceV, asliceS, szOk, srcCells, aappend, astore, amakeSlice, abuildSlice, snapL, mapO, treeL, AVal.tree, AVal.flatT, isFlat, ares, isFz, afroz, afrozB, lookupA, lookupH, tops, if_true, if_false, reduceCtorEq, forall_const, ite_true, ite_false, implies_true, walkS, tabS, Try.results47, eq_true cltI, htl, hts, hll, Nat.le_add_right]
      refine callK (den_ContainsFunc ch _ _ (fun x => ap A x c < d) (by simp only [treeL, AVal.tree, treeL_i, treeL_ints, Bool.and_self]) (fun x hx => den_visit1 h d b1 ch best1 x c (hch.rg x hx).1 (hch.rg x hx).2 clt) (fun _ => by simp only [snapL, snap_iptr, treeL, AVal.tree, treeL_i, treeL_ints, Bool.and_self, if_true]) (fun _ => by simp only [mapO, snap_iptr, treeL, AVal.tree, treeL_i, treeL_ints, Bool.and_self, if_true])) (by first | exact .inl rfl | exact .inr rfl) ?_
      have hwc : IntKind.i64.wrap ((c : Int) + 1) = ((c + 1 : Nat) : Int) := wrap64 (by omega) (by omega)
      by_cases hq : ∃ x ∈ ch, ap A x c < d
      · have hn : ¬ Clq A d (ch ++ [(c : Int)]) := fun hk => by
          obtain ⟨x, hx, hl⟩ := hq
          have := ((clq_snoc.1 hk).2.2 x hx).2
          omega
        simp (config := { maxSteps := 1000000 }) +decide only [NoH, Old, OldL, nilQ, nilA, RechL, ReY, isNew, stepO, XPost, postN, XOk, updN, updU, isEff, avalue, aeff, ASt.eval, ASt.put, ASt.set, ASt.new, Nat.reduceDiv, Nat.reduceAdd, Int.reduceToNat, absV, absC, scalar, alen, acap, conc, flats, live, blkOf, aload, rd, part?, afieldAddr, afield, aindexAddr, cellsOf, afill, places, abuild, optI, asliceV, asliceS, szOk, srcCells, aappend, astore, amakeSlice, abuildSlice, snapL, mapO, treeL, AVal.tree, AVal.flatT, isFlat, ares, isFz, afroz, afrozB, lookupA, lookupH, tops, if_true, if_false, reduceCtorEq, forall_const, ite_true, ite_false, implies_true, walkS, tabS, Try.results47, eq_true hq, hwc]
        refine ⟨⟨(c + 1, (b1, best1), (g4, g6, G1), tl), by show nxt ch ≤ c + 1; omega, clt, visI_skip hv clt hn⟩, ?_, by show A.length - (c + 1) < A.length - c; omega⟩
        refine weak_mk rfl (by first | exact Nat.le_refl _ | (simp only [mk_gen]; omega)) ?_ ?_ <;> simp +decide only [w_lookup_nil, w_lookup_cons, ch_ch, ch_lit, lit_ch, wkT, wkH, wkB, WVL, WV_refl', Int.natCast_zero, Int.natCast_add, Int.natCast_one, Nat.sub_self, Nat.sub_zero, List.replicate_zero, List.take_zero, List.nil_append, List.append_nil, fillC_zero, Nat.reduceDiv, Nat.reduceAdd, upd_bk, bk_at, getB_zero, getB_succ, modB_zero, modB_succ, rows_lit, repB_zero, repB_succ, List.length_cons, List.length_nil, upd_upd_same, upd_apply, mk_tmp, mk_heap, mk_gen, lookupA, lookupH, List.getD_cons_zero, List.getD_cons_succ, init_two, tops, Bool.true_and, and_self, and_true, true_and, true_or, if_true, if_false, ite_true, ite_false, reduceCtorEq, reduceIte]
      have hk : Clq A d (ch ++ [(c : Int)]) := clq_snoc.2 ⟨hch, ⟨by omega, by omega⟩, fun x hx => ⟨by have := lt_nxt hch x hx; omega, by
        have : ¬ ap A x c < d := fun hl => hq ⟨x, hx, hl⟩
        omega⟩⟩
      have hp2 : 1 ≤ 2 ^ (A.length - (c + 1)) := Nat.one_le_two_pow
      have hp3 := pow_step clt
      have hx := ih (ch ++ [(c : Int)]) b1 best1 (by rw [nxt_snoc]; omega) hk hv.clq (by rw [nxt_snoc]; omega) (by omega)
      have h8 : (ch.length + 1) * 8 ≤ 140737488355328 := by omega
      have hlc : (ch ++ [(c : Int)]).length = ch.length + 1 := by simp
      have htc : List.take (ch.length + 1) (ch ++ [(c : Int)]) = ch ++ [(c : Int)] := List.take_of_length_le (by omega)
      have hwl : IntKind.i64.wrap (((ch.length + 1 : Nat) : Int) - 1) = (ch.length : Int) := (wrap64 (by omega) (by omega)).trans (by omega)
      have hl1 : ch.length ≤ ch.length + 1 := by omega
      have hl2 : ch.length < ch.length + 1 := by omega
      simp only [vT, xints, hlc] at hx
      simp (config := { maxSteps := 1000000 }) +decide only [NoH, Old, OldL, nilQ, nilA, RechL, ReY, isNew, stepO, XPost, postN, XOk, updN, updU, isEff, avalue, aeff, ASt.eval, ASt.put, ASt.set, ASt.new, Nat.reduceDiv, Nat.reduceAdd, Int.reduceToNat, absV, absC, scalar, alen, acap, conc, flats, live, blkOf, aload, rd, part?, afieldAddr, afield, aindexAddr, cellsOf, afill, places, abuild, optI, asliceV, asliceS, szOk, srcCells, aappend, astore, amakeSlice, abuildSlice, snapL, mapO, treeL, AVal.tree, AVal.flatT, isFlat, ares, isFz, afroz, afrozB, lookupA, lookupH, tops, if_true, if_false, reduceCtorEq, forall_const, ite_true, ite_false, implies_true, walkS, tabS, Try.results47, eq_false hq, hwc, h8, htl, hll, hts, Nat.le_add_right, List.replicate_succ, List.flatten_cons, List.flatten_nil, mapC_snoc]
      refine callY (hx) (by simp (config := { maxSteps := 1000000 }) +decide only [NoH, Old, OldL, nilQ, nilA, RechL, ReY, isNew, stepO, XPost, postN, XOk, updN, updU, isEff, avalue, aeff, ASt.eval, ASt.put, ASt.set, ASt.new, Nat.reduceDiv, Nat.reduceAdd, Int.reduceToNat, absV, absC, scalar, alen, acap, conc, flats, live, blkOf, aload, rd, part?, afieldAddr, afield, aindexAddr, cellsOf, afill, places, abuild, optI, asliceV, asliceS, szOk, srcCells, aappend, astore, amakeSlice, abuildSlice, snapL, mapO, treeL, AVal.tree, AVal.flatT, isFlat, ares, isFz, afroz, afrozB, lookupA, lookupH, tops, if_true, if_false, reduceCtorEq, forall_const, ite_true, ite_false, implies_true, walkS, tabS, Try.results47, hlc, htc, hts, htl, hl2]) (fun i hi => by simp (config := { maxSteps := 1000000 }) +decide only [NoH, Old, OldL, nilQ, nilA, RechL, ReY, isNew, stepO, XPost, postN, XOk, updN, updU, isEff, avalue, aeff, ASt.eval, ASt.put, ASt.set, ASt.new, Nat.reduceDiv, Nat.reduceAdd, Int.reduceToNat, absV, absC, scalar, alen, acap, conc, flats, live, blkOf, aload, rd, part?, afieldAddr, afield, aindexAddr, cellsOf, afill, places, abuild, optI, asliceV, asliceS, szOk, srcCells, aappend, astore, amakeSlice, abuildSlice, snapL, mapO, treeL, AVal.tree, AVal.flatT, isFlat, ares, isFz, afroz, afrozB, lookupA, lookupH, tops, if_true, if_false, reduceCtorEq, forall_const, ite_true, ite_false, implies_true, walkS, tabS, Try.results47, hlc, htc, hts, htl, hl2]) ?_
      rintro ⟨b2, best2⟩ hv2
      have hv3 : VisI A d ch b best (c + 1) (b2, best2) := visI_take hv clt hv2
      have v5 := hv3.lo
      simp only at v5
      have hb2 : ¬ b2 < 0 := by omega
      simp (config := { maxSteps := 1000000 }) +decide only [NoH, Old, OldL, nilQ, nilA, RechL, ReY, isNew, stepO, XPost, postN, XOk, updN, updU, isEff, avalue, aeff, ASt.eval, ASt.put, ASt.set, ASt.new, Nat.reduceDiv, Nat.reduceAdd, Int.reduceToNat, absV, absC, scalar, alen, acap, conc, flats, live, blkOf, aload, rd, part?, afieldAddr, afield, aindexAddr, cellsOf, afill, places, abuild, optI, asliceV, asliceS, szOk, srcCells, aappend, astore, amakeSlice, abuildSlice, snapL, mapO, treeL, AVal.tree, AVal.flatT, isFlat, ares, isFz, afroz, afrozB, lookupA, lookupH, tops, if_true, if_false, reduceCtorEq, forall_const, ite_true, ite_false, implies_true, walkS, tabS, Try.results47, eq_false hb2, hwc, hwl, hlc, htc, hl1, hl2, Nat.zero_le]
      refine ⟨⟨(c + 1, (b2, best2), (G1 + 1, G1 + 1, G1 + 2), [(c : Int)]), by show nxt ch ≤ c + 1; omega, clt, hv3⟩, ?_, by show A.length - (c + 1) < A.length - c; omega⟩
      refine weak_mk rfl (by first | exact Nat.le_refl _ | (simp only [mk_gen]; omega)) ?_ ?_ <;> simp +decide only [w_lookup_nil, w_lookup_cons, ch_ch, ch_lit, lit_ch, wkT, wkH, wkB, WVL, WV_refl', Int.natCast_zero, Int.natCast_add, Int.natCast_one, Nat.sub_self, Nat.sub_zero, List.replicate_zero, List.take_zero, List.nil_append, List.append_nil, fillC_zero, Nat.reduceDiv, Nat.reduceAdd, upd_bk, bk_at, getB_zero, getB_succ, modB_zero, modB_succ, rows_lit, repB_zero, repB_succ, List.length_cons, List.length_nil, upd_upd_same, upd_apply, mk_tmp, mk_heap, mk_gen, lookupA, lookupH, List.getD_cons_zero, List.getD_cons_succ, init_two, tops, Bool.true_and, and_self, and_true, true_and, true_or, if_true, if_false, ite_true, ite_false, reduceCtorEq, reduceIte]
theorem deny_visit {D A : List (List Int)} (h : PrD D A) (d : Int) : ∀ (f : Nat) (ch : List Int) (b : Int) (best : List Int), A.length - nxt ch < f → Clq A d ch → Clq A d best → ((2 ^ (A.length - nxt ch) : Nat) : Int) ≤ b → b ≤ 20000 →
    DenY Try.prog 47 [vT D A d ch b best] (Vis A d ch b best) (fun r => [vT D A d ch r.1 r.2]) (fun _ => .tup [])
  | 0, _, _, _, h, _, _, _, _ => absurd h (Nat.not_lt_zero _)
  | f + 1, ch, b, best, hf, hch, hbe, hb0, hb1 => deny_visitStep h d f (fun ch b best h1 h2 h3 h4 h5 => deny_visit h d f ch b best h1 h2 h3 h4 h5) ch b best hf hch hbe hb0 hb1
end Go.Proofs.Yteempjinbolkaaa
