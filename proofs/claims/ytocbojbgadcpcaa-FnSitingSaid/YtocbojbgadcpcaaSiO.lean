/-
  OWN WORK: the candidate with the most new places for its cost, until everything is covered: plain.
-/
import Derived.Test.YtocbojbgadcpcaaSiE
import Derived.Test.YtocbojbgadcpcaaSiJ
import Derived.Test.YtocbojbgadcpcaaSiN
namespace Go.Proofs.Ytocbojbgadcpcaa
open Go Go.Own Go.Proofs
set_option maxHeartbeats 4000000
set_option maxRecDepth 20000
set_option linter.unusedSimpArgs false
theorem plK_mono {q q' : Int → Prop} (h : ∀ y, q y → q' y) : ∀ n : Nat, (plK q n).length ≤ (plK q' n).length
  | 0 => Nat.le_refl _
  | n + 1 => by
    have ih := plK_mono h n
    by_cases c : q n
    · rw [plK_yes c, plK_yes (h _ c)]
      simp
      omega
    · rw [plK_no c]
      by_cases c' : q' n
      · rw [plK_yes c']
        simp
        omega
      · rw [plK_no c']
        exact ih
theorem plK_lt {q q' : Int → Prop} (h : ∀ y, q y → q' y) : ∀ (n k : Nat), k < n → q' k → ¬ q k → (plK q n).length < (plK q' n).length
  | 0, _, hk, _, _ => absurd hk (Nat.not_lt_zero _)
  | n + 1, k, hk, h1, h2 => by
    by_cases e : k = n
    · subst e
      have := plK_mono h k
      rw [plK_no h2, plK_yes h1]
      simp
      omega
    · have ih := plK_lt h n k (by omega) h1 h2
      by_cases c : q n
      · rw [plK_yes c, plK_yes (h _ c)]
        simp
        omega
      · rw [plK_no c]
        by_cases c' : q' n
        · rw [plK_yes c']
          simp
          omega
        · rw [plK_no c']
          exact ih
def nwQ (cv : List (List Int)) (ch : List Int) (c : Int) (y : Int) : Prop := y ∈ cv.getD c.toNat [] ∧ ¬ cvd cv ch y
noncomputable def nwV (ws : List Int) (cv : List (List Int)) (ch : List Int) (c : Int) : Nat := (plK (nwQ cv ch c) ws.length).length
theorem nwV_le (ws : List Int) (cv : List (List Int)) (ch : List Int) (c : Int) : nwV ws cv ch c ≤ ws.length := plK_le _ _
theorem nwV_congr {ws : List Int} {cv : List (List Int)} {l l' : List Int} (h : ∀ x, x ∈ l ↔ x ∈ l') (c : Int) : nwV ws cv l c = nwV ws cv l' c := by
  unfold nwV
  rw [plK_congr (q' := nwQ cv l' c) fun k _ => by unfold nwQ; rw [cvd_congr h]]
theorem nwV_pos {ws : List Int} {cv : List (List Int)} {ch : List Int} {c : Int} : 0 < nwV ws cv ch c ↔ ∃ k : Nat, k < ws.length ∧ nwQ cv ch c k := by
  have := plK_empty (q := nwQ cv ch c) ws.length
  unfold nwV
  constructor
  · intro h
    refine Classical.byContradiction fun hn => ?_
    have := this.2 fun k hk hq => hn ⟨k, hk, hq⟩
    omega
  · rintro ⟨k, hk, hq⟩
    refine Nat.pos_of_ne_zero fun h0 => ?_
    exact this.1 h0 k hk hq
def gvQ (ws : List Int) (cv : List (List Int)) (cs ch : List Int) (b : Int) (c : Nat) : Prop := 0 < nwV ws cv ch c ∧ (b < 0 ∨ (nwV ws cv ch b : Int) * cs.getD c 0 < (nwV ws cv ch c : Int) * cs.getD b.toNat 0)
noncomputable def gvU (ws : List Int) (cv : List (List Int)) (cs ch : List Int) : Nat → Int
  | 0 => -1
  | c + 1 => if bp (gvQ ws cv cs ch (gvU ws cv cs ch c) c) then (c : Int) else gvU ws cv cs ch c
section
variable {ws : List Int} {cv : List (List Int)} {cs ch : List Int} {c : Nat}
theorem gvU_yes (h : gvQ ws cv cs ch (gvU ws cv cs ch c) c) : gvU ws cv cs ch (c + 1) = c := by rw [gvU, if_pos (by rw [bp_true]; exact h)]
theorem gvU_no (h : ¬ gvQ ws cv cs ch (gvU ws cv cs ch c) c) : gvU ws cv cs ch (c + 1) = gvU ws cv cs ch c := by rw [gvU, if_neg (by rw [bp_true]; exact h)]
end
theorem gvU_is (ws : List Int) (cv : List (List Int)) (cs ch : List Int) : ∀ c : Nat, (gvU ws cv cs ch c = -1 ∧ ∀ m : Nat, m < c → nwV ws cv ch m = 0) ∨ ∃ m : Nat, gvU ws cv cs ch c = m ∧ m < c ∧ 0 < nwV ws cv ch m
  | 0 => .inl ⟨rfl, fun m h => absurd h (Nat.not_lt_zero _)⟩
  | c + 1 => by
    by_cases h : gvQ ws cv cs ch (gvU ws cv cs ch c) c
    · exact .inr ⟨c, gvU_yes h, Nat.lt_succ_self _, h.1⟩
    · rw [gvU_no h]
      rcases gvU_is ws cv cs ch c with ⟨h1, h2⟩ | ⟨m, h1, h2, h3⟩
      · refine .inl ⟨h1, fun m hm => ?_⟩
        by_cases e : m = c
        · subst e
          exact Nat.eq_zero_of_not_pos fun hp => h ⟨hp, .inl (by rw [h1]; omega)⟩
        · exact h2 m (by omega)
      · exact .inr ⟨m, h1, by omega, h3⟩
theorem gvU_congr {ws : List Int} {cv : List (List Int)} {cs l l' : List Int} (h : ∀ x, x ∈ l ↔ x ∈ l') : ∀ c : Nat, gvU ws cv cs l c = gvU ws cv cs l' c
  | 0 => rfl
  | c + 1 => by
    have ih := gvU_congr (ws := ws) (cv := cv) (cs := cs) h c
    have e : gvQ ws cv cs l (gvU ws cv cs l c) c ↔ gvQ ws cv cs l' (gvU ws cv cs l' c) c := by
      unfold gvQ
      rw [ih, nwV_congr h, nwV_congr h]
    by_cases hq : gvQ ws cv cs l (gvU ws cv cs l c) c
    · rw [gvU_yes hq, gvU_yes (e.1 hq)]
    · rw [gvU_no hq, gvU_no (fun h => hq (e.2 h)), ih]
def AllC (ws : List Int) (cv : List (List Int)) (ch : List Int) : Prop := ∀ y : Nat, y < ws.length → cvd cv ch y
theorem allC_congr {ws : List Int} {cv : List (List Int)} {l l' : List Int} (h : ∀ x, x ∈ l ↔ x ∈ l') : AllC ws cv l ↔ AllC ws cv l' := by
  unfold AllC
  exact forall_congr' fun y => by rw [cvd_congr h]
theorem left_zero {ws : List Int} {cv : List (List Int)} {ch : List Int} : (plW ws cv ch false).length = 0 ↔ AllC ws cv ch := by
  unfold plW AllC
  rw [plK_empty]
  refine forall_congr' fun k => ?_
  rw [bp_false]
  exact ⟨fun h hk => Classical.byContradiction fun hn => h hk hn, fun h hk hn => hn (h hk)⟩
theorem covL_all {ws : List Int} {cv : List (List Int)} {ch : List Int} : (covL ws cv ch).length = ws.length ↔ AllC ws cv ch := plK_full _
noncomputable def gvK (ws : List Int) (cv : List (List Int)) (cs : List Int) : Nat → List Int → Option (List Int)
  | 0, _ => none
  | f + 1, ch => if bp (AllC ws cv ch) then some ch else if gvU ws cv cs ch cv.length < 0 then none else gvK ws cv cs f (ch ++ [gvU ws cv cs ch cv.length])
section
variable {ws : List Int} {cv : List (List Int)} {cs ch : List Int} {f : Nat}
theorem gvK_all (h : AllC ws cv ch) : gvK ws cv cs (f + 1) ch = some ch := by rw [gvK, if_pos (by rw [bp_true]; exact h)]
theorem gvK_not (h : ¬ AllC ws cv ch) (h2 : gvU ws cv cs ch cv.length < 0) : gvK ws cv cs (f + 1) ch = none := by rw [gvK, if_neg (by rw [bp_true]; exact h), if_pos h2]
theorem gvK_next (h : ¬ AllC ws cv ch) (h2 : ¬ gvU ws cv cs ch cv.length < 0) : gvK ws cv cs (f + 1) ch = gvK ws cv cs f (ch ++ [gvU ws cv cs ch cv.length]) := by rw [gvK, if_neg (by rw [bp_true]; exact h), if_neg h2]
end
structure GvK (cv : List (List Int)) (ch : List Int) : Prop where
  idx : Idx cv ch
  nd : ch.Nodup
theorem gvK_nil (cv : List (List Int)) : GvK cv [] := ⟨fun _ hi => absurd hi (Nat.not_lt_zero _), List.nodup_nil⟩
theorem gvK_snoc {ws : List Int} {cv : List (List Int)} {ch : List Int} {m : Nat} (h : GvK cv ch) (hm : m < cv.length) (hp : 0 < nwV ws cv ch m) : GvK cv (ch ++ [(m : Int)]) := by
  refine ⟨fun i hi => ?_, ?_⟩
  · by_cases e : i < ch.length
    · rw [List.getElem_append_left e]; exact h.idx i e
    · refine ⟨m, ?_, hm⟩
      rw [List.getElem_append_right (by omega)]
      simp
  · obtain ⟨k, _, h2, h3⟩ := nwV_pos.1 hp
    refine List.nodup_append.2 ⟨h.nd, by simp, fun a ha b hb hab => h3 ⟨m, ?_, h2⟩⟩
    rw [List.mem_singleton] at hb
    rw [← hb, ← hab]
    exact ha
theorem left_lt {ws : List Int} {cv : List (List Int)} {ch : List Int} {m : Nat} (hp : 0 < nwV ws cv ch m) : (plW ws cv (ch ++ [(m : Int)]) false).length < (plW ws cv ch false).length := by
  obtain ⟨k, h1, h2, h3⟩ := nwV_pos.1 hp
  unfold plW
  refine plK_lt (fun y hy => ?_) _ k h1 (by rw [bp_false]; exact h3) (by rw [bp_false, cvd_snoc]; exact fun h => h (.inr h2))
  rw [bp_false] at hy ⊢
  exact fun h => hy ((cvd_snoc _ _ _ _).2 (.inl h))
/-- whatever is not covered could be -/
def Can (ws : List Int) (cv : List (List Int)) : Prop := ∀ y : Nat, y < ws.length → ∃ c : Nat, c < cv.length ∧ (y : Int) ∈ cv.getD c []
theorem gvK_can {ws : List Int} {cv : List (List Int)} {cs : List Int} (hc : Can ws cv) : ∀ (f : Nat) (ch : List Int), (plW ws cv ch false).length < f → ∃ R, gvK ws cv cs f ch = some R
  | 0, _, h => absurd h (Nat.not_lt_zero _)
  | f + 1, ch, h => by
    by_cases ha : AllC ws cv ch
    · exact ⟨ch, gvK_all ha⟩
    · obtain ⟨y, hy⟩ := Classical.not_forall.1 ha
      obtain ⟨hy1, hy2⟩ := Classical.not_imp.1 hy
      obtain ⟨c, hc1, hc2⟩ := hc y hy1
      have hp : 0 < nwV ws cv ch c := nwV_pos.2 ⟨y, hy1, hc2, hy2⟩
      rcases gvU_is ws cv cs ch cv.length with ⟨_, h2⟩ | ⟨m, h1, h2, h3⟩
      · have := h2 c hc1
        omega
      · rw [gvK_next ha (by rw [h1]; omega), h1]
        have := left_lt h3
        exact gvK_can hc f _ (by omega)
theorem gvK_cannot {ws : List Int} {cv : List (List Int)} {cs : List Int} (hc : ¬ Can ws cv) : ∀ (f : Nat) (ch : List Int), Idx cv ch → gvK ws cv cs f ch = none
  | 0, _, _ => rfl
  | f + 1, ch, hi => by
    have ha : ¬ AllC ws cv ch := fun ha => hc fun y hy => by
      obtain ⟨c, h1, h2⟩ := ha y hy
      obtain ⟨i, hi2, rfl⟩ := List.getElem_of_mem h1
      obtain ⟨n, e, hn⟩ := hi i hi2
      exact ⟨n, hn, by rw [e] at h2; simpa using h2⟩
    rcases gvU_is ws cv cs ch cv.length with ⟨h1, _⟩ | ⟨m, h1, h2, h3⟩
    · exact gvK_not ha (by rw [h1]; omega)
    · rw [gvK_next ha (by rw [h1]; omega), h1]
      refine gvK_cannot hc f _ fun i hi2 => ?_
      by_cases e : i < ch.length
      · rw [List.getElem_append_left e]; exact hi i e
      · refine ⟨m, ?_, h2⟩
        rw [List.getElem_append_right (by omega)]
        simp
noncomputable def srt (cv : List (List Int)) (ch : List Int) : List Int := plK (fun y => y ∈ ch) cv.length
theorem srt_mem {cv : List (List Int)} {ch : List Int} (h : Idx cv ch) (x : Int) : x ∈ srt cv ch ↔ x ∈ ch := by
  unfold srt
  rw [mem_plK]
  refine ⟨fun ⟨n, _, h2, h3⟩ => by rw [h2]; exact h3, fun hx => ?_⟩
  obtain ⟨i, hi, rfl⟩ := List.getElem_of_mem hx
  obtain ⟨n, e, hn⟩ := h i hi
  exact ⟨n, hn, e, by rw [← e]; exact hx⟩
theorem srt_idx {cv : List (List Int)} {ch : List Int} (h : Idx cv ch) : Idx cv (srt cv ch) := fun i hi => by
  have hx := (srt_mem h _).1 (List.getElem_mem hi)
  obtain ⟨j, hj, e2⟩ := List.getElem_of_mem hx
  rw [← e2]
  exact h j hj
theorem srt_snoc {cv : List (List Int)} {ch : List Int} {m : Nat} (hm : m < cv.length) : put (srt cv ch) m = srt cv (ch ++ [(m : Int)]) := by
  unfold srt
  rw [put_plK hm]
  refine plK_congr fun y _ => ?_
  rw [List.mem_append, List.mem_singleton]
theorem sortI_srt {cv : List (List Int)} {ch : List Int} (h : GvK cv ch) : sortI ch = srt cv ch := by
  refine sorted_ext ?_ (sorted_plK _ _) fun x => by rw [sortI_mem, srt_mem h.idx]
  have h1 : (sortI ch).Pairwise fun x y => decide (x ≤ y) = true := List.pairwise_mergeSort (by intro a b c h1 h2; simp at *; omega) (by intro a b; simp; omega) _
  have h2 : (sortI ch).Nodup := (sortI_perm _).nodup_iff.2 h.nd
  refine (h1.and h2).imp fun {a b} h => ?_
  have h3 := h.1
  have h4 := h.2
  simp only [decide_eq_true_eq] at h3
  omega
noncomputable def gvR (ws : List Int) (cv : List (List Int)) (cs : List Int) : Option (List Int) := gvK ws cv cs (ws.length + 1) []
noncomputable def gvL (ws : List Int) (cv : List (List Int)) (cs : List Int) : List Int := if bp (OkSit ws cv cs) then (match gvR ws cv cs with | some R => srt cv R | none => []) else []
noncomputable def gvC (ws : List Int) (cv : List (List Int)) (cs : List Int) : Int := if bp (OkSit ws cv cs) then (match gvR ws cv cs with | some _ => 0 | none => 3) else 1
section
variable {ws : List Int} {cv : List (List Int)} {cs : List Int}
theorem gv_no (h1 : ¬ OkSit ws cv cs) : gvL ws cv cs = [] ∧ gvC ws cv cs = 1 := by
  unfold gvL gvC
  rw [if_neg (by rw [bp_true]; exact h1), if_neg (by rw [bp_true]; exact h1)]
  exact ⟨rfl, rfl⟩
theorem gv_none (h1 : OkSit ws cv cs) (h2 : gvR ws cv cs = none) : gvL ws cv cs = [] ∧ gvC ws cv cs = 3 := by
  unfold gvL gvC
  rw [if_pos (by rw [bp_true]; exact h1), if_pos (by rw [bp_true]; exact h1), h2]
  exact ⟨rfl, rfl⟩
theorem gv_some {R : List Int} (h1 : OkSit ws cv cs) (h2 : gvR ws cv cs = some R) : gvL ws cv cs = srt cv R ∧ gvC ws cv cs = 0 := by
  unfold gvL gvC
  rw [if_pos (by rw [bp_true]; exact h1), if_pos (by rw [bp_true]; exact h1), h2]
  exact ⟨rfl, rfl⟩
end
theorem gvL_le (ws : List Int) (cv : List (List Int)) (cs : List Int) : (gvL ws cv cs).length ≤ 20 := by
  by_cases h : OkSit ws cv cs
  · cases hR : gvR ws cv cs with
    | none => rw [(gv_none h hR).1]; simp
    | some R =>
      rw [(gv_some h hR).1]
      have := plK_le (fun y => y ∈ R) cv.length
      have := h.c2
      unfold srt
      omega
  · rw [(gv_no h).1]; simp
theorem mem_covL {ws : List Int} {cv : List (List Int)} {ch : List Int} {k : Nat} (hk : k < ws.length) : (k : Int) ∈ covL ws cv ch ↔ cvd cv ch k := by
  unfold covL
  rw [mem_plK]
  exact ⟨fun ⟨m, _, h2, h3⟩ => by rw [h2]; exact h3, fun h => ⟨k, hk, rfl, h⟩⟩
theorem nwV_newR {ws : List Int} {cv : List (List Int)} {ch : List Int} {n : Nat} (hn : n < cv.length) (hr : Rises 0 (ws.length - 1) cv[n]) : (newR (covL ws cv ch) cv[n]).length = nwV ws cv ch n := by
  unfold nwV
  rw [newR_plK hr]
  rw [plK_congr (q' := nwQ cv ch n) fun k hk => ?_]
  unfold nwQ
  rw [row_get hn, mem_covL hk]
theorem mem_left {ws : List Int} {cv : List (List Int)} {ch : List Int} {k : Nat} (hk : k < ws.length) : (k : Int) ∈ plW ws cv ch false ↔ ¬ (k : Int) ∈ covL ws cv ch := by
  rw [mem_covL hk]
  unfold plW
  rw [mem_plK]
  constructor
  · rintro ⟨m, _, h2, h3⟩
    rw [bp_false, ← h2] at h3
    exact h3
  · intro h
    exact ⟨k, hk, rfl, by rw [bp_false]; exact h⟩
end Go.Proofs.Ytocbojbgadcpcaa
