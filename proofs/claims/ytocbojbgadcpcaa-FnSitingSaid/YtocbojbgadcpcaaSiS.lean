/-
  OWN WORK: gains, covers, choices cut down, greedy choices: plain.
-/
import Derived.Test.YtocbojbgadcpcaaSiR
import Derived.Test.YtocbojbgadcpcaaSiP
namespace Go.Proofs.Ytocbojbgadcpcaa
open Go Go.Own Go.Proofs
set_option maxHeartbeats 4000000
set_option maxRecDepth 20000
set_option linter.unusedSimpArgs false
theorem rises_of {lo hi : Int} {xs : List Int} (h1 : xs.Pairwise (· < ·)) (h2 : ∀ x ∈ xs, lo ≤ x ∧ x ≤ hi) : Rises lo hi xs := by
  rw [List.pairwise_iff_getElem] at h1
  intro i hi'
  exact ⟨h2 _ (List.getElem_mem hi'), fun h0 => h1 (i - 1) i (by omega) hi' (by omega)⟩
theorem rises_in {lo hi : Int} {xs : List Int} (h : Rises lo hi xs) : ∀ x ∈ xs, lo ≤ x ∧ x ≤ hi := fun x hx => by
  obtain ⟨i, hi, rfl⟩ := List.getElem_of_mem hx
  exact (h i hi).1
theorem rises_plKn (q : Int → Prop) (n : Nat) : Rises 0 ((n : Int) - 1) (plK q n) :=
  rises_of (sorted_plK q n) fun x hx => by
    obtain ⟨m, h1, h2, _⟩ := mem_plK.1 hx
    omega
theorem wsum_mono {ws : List Int} (hw : ∀ i (h : i < ws.length), 0 ≤ ws[i] ∧ ws[i] ≤ 1000000) {q q' : Int → Prop} (h : ∀ y, q y → q' y) {n : Nat} (hn : n ≤ 1000000) : wsum ws (plK q n) ≤ wsum ws (plK q' n) ∧ 0 ≤ wsum ws (plK q n) := by
  have h1 := wsum_diff ws h n
  have l1 := plK_le (fun y => q' y ∧ ¬ q y) n
  have l2 := plK_le q n
  obtain ⟨_, a2, _⟩ := sumAt_wsum hw _ (plK (fun y => q' y ∧ ¬ q y) n) rfl (by omega)
  obtain ⟨_, b2, _⟩ := sumAt_wsum hw _ (plK q n) rfl (by omega)
  omega
theorem gain_law {ws : List Int} {cv : List (List Int)} {cs ch : List Int} (h : OkSit ws cv cs) (hr : Rises 0 ((cv.length : Int) - 1) ch) {k : Nat} (hk : k < cv.length) :
    gainC ws cv cs ch k = 0 ∧ gainC ws cv cs [] k = 0 ∧ gainN ws cv cs ch k ≤ gainN ws cv cs [] k ∧ 0 ≤ gainN ws cv cs ch k := by
  have hi : InIx cv k := ⟨by omega, by omega⟩
  obtain ⟨a1, a2⟩ := gain_yes (c := k) (ask_yes h hr) hi
  obtain ⟨b1, b2⟩ := gain_yes (c := k) (ch := []) (ask_yes h (fun _ hj => absurd hj (Nat.not_lt_zero _))) hi
  rw [a1, b1, a2, b2]
  have h2 := h.w2
  obtain ⟨c1, c2⟩ := wsum_mono (ws := ws) (fun i hi => h.wt i hi) (q := fun y => y ∈ cv.getD (k : Int).toNat [] ∧ ¬ cvd cv ch y) (q' := fun y => y ∈ cv.getD (k : Int).toNat [] ∧ ¬ cvd cv [] y) (fun y hy => ⟨hy.1, fun hc => (cvd_nil cv y).1 hc⟩) (n := ws.length) (by omega)
  exact ⟨rfl, rfl, c1, c2⟩
theorem pl_two (p : Int → Bool) : ∀ n : Nat, (plK (fun y => p y = true) n).length + (plK (fun y => p y = false) n).length = n
  | 0 => rfl
  | n + 1 => by
    have ih := pl_two p n
    cases hp : p n with
    | true =>
      rw [plK_yes (q := fun y => p y = true) hp, plK_no (q := fun y => p y = false) (by rw [hp]; simp), List.length_append, List.length_cons, List.length_nil]
      omega
    | false =>
      rw [plK_no (q := fun y => p y = true) (by rw [hp]; simp), plK_yes (q := fun y => p y = false) hp, List.length_append, List.length_cons, List.length_nil]
      omega
theorem have_rest (ws : List Int) (cv : List (List Int)) (ch : List Int) : (plW ws cv ch true).length + (plW ws cv ch false).length = ws.length := pl_two (fun y => bp (cvd cv ch y)) ws.length
theorem plW_covL (ws : List Int) (cv : List (List Int)) (ch : List Int) : plW ws cv ch true = covL ws cv ch := plK_congr fun k _ => by rw [bp_true]
/-! ### cut down -/
theorem cvd_sub {cv : List (List Int)} {l l' : List Int} (h : ∀ x ∈ l, x ∈ l') (y : Int) (hy : cvd cv l y) : cvd cv l' y := by
  obtain ⟨c, h1, h2⟩ := hy
  exact ⟨c, h c h1, h2⟩
theorem covL_del {ws : List Int} {cv : List (List Int)} {l : List Int} {i : Nat} (h : prS ws cv l i) : covL ws cv (del l i) = covL ws cv l := by
  unfold prS at h
  unfold covL at h ⊢
  refine plK_congr fun k hk => ⟨fun hc => cvd_sub (fun x hx => del_mem hx) _ hc, fun hc => ?_⟩
  refine Classical.byContradiction fun hn => ?_
  have := plK_lt (q := cvd cv (del l i)) (q' := cvd cv l) (fun y hy => cvd_sub (fun x hx => del_mem hx) _ hy) ws.length k hk hc hn
  omega
theorem del_sub (l : List Int) (i : Nat) : (del l i).Sublist l := by
  unfold del
  have h1 : (l.drop (i + 1)).Sublist (l.drop i) := by
    rw [← List.drop_drop]
    exact List.drop_sublist _ _
  have := (List.Sublist.refl (l.take i)).append h1
  rwa [List.take_append_drop] at this
theorem prK_law {ws : List Int} {cv : List (List Int)} : ∀ (k : Nat) (l : List Int), covL ws cv (prK ws cv k l) = covL ws cv l ∧ (prK ws cv k l).Sublist l
  | 0, l => ⟨rfl, List.Sublist.refl l⟩
  | k + 1, l => by
    by_cases hp : prS ws cv l k
    · rw [prK_yes hp]
      obtain ⟨h1, h2⟩ := prK_law (ws := ws) (cv := cv) k (del l k)
      exact ⟨h1.trans (covL_del hp), h2.trans (del_sub l k)⟩
    · rw [prK_no hp]
      exact prK_law k l
theorem prune_law {ws : List Int} {cv : List (List Int)} {cs ch : List Int} (h : OkSit ws cv cs) (hr : Rises 0 ((cv.length : Int) - 1) ch) :
    askC ws cv cs (prL ws cv cs ch) = 0 ∧ plW ws cv (prL ws cv cs ch) true = plW ws cv ch true := by
  rw [prL_yes (ask_yes h hr)]
  obtain ⟨h1, h2⟩ := prK_law (ws := ws) (cv := cv) ch.length ch
  refine ⟨ask_yes h (rises_of ((rises_sorted hr).sublist h2) fun x hx => rises_in hr x (h2.subset hx)), ?_⟩
  rw [plW_covL, plW_covL, h1]
/-! ### greedy choices -/
theorem greedy_law {ws : List Int} {cv : List (List Int)} {k : Nat} (hk : k ≤ cv.length) : (spK ws cv k).length = k ∧ Rises 0 ((cv.length : Int) - 1) (spK ws cv k) := by
  have h := chK_ok (ws := ws) k hk
  refine ⟨?_, rises_plKn _ _⟩
  rw [← sortI_spK h, sortI_length]
  exact h.len
theorem gvK_some {ws : List Int} {cv : List (List Int)} {cs : List Int} : ∀ (f : Nat) (ch R : List Int), Idx cv ch → gvK ws cv cs f ch = some R → AllC ws cv R ∧ Idx cv R
  | 0, _, _, _, h => by simp [gvK] at h
  | f + 1, ch, R, hi, h => by
    by_cases ha : AllC ws cv ch
    · rw [gvK_all ha] at h
      simp only [Option.some.injEq] at h
      subst h
      exact ⟨ha, hi⟩
    · rcases gvU_is ws cv cs ch cv.length with ⟨h1, _⟩ | ⟨m, h1, h2, h3⟩
      · rw [gvK_not ha (by rw [h1]; omega)] at h
        simp at h
      · rw [gvK_next ha (by rw [h1]; omega), h1] at h
        refine gvK_some f _ R (fun i hi2 => ?_) h
        by_cases e : i < ch.length
        · rw [List.getElem_append_left e]; exact hi i e
        · refine ⟨m, ?_, h2⟩
          rw [List.getElem_append_right (by omega)]
          simp
theorem cover_law {ws : List Int} {cv : List (List Int)} {cs : List Int} (h : SitD ws cv cs) :
    (gvC ws cv cs = 0 ∧ lcC ws cv cs 4000 = 0 ∧ askC ws cv cs (gvL ws cv cs) = 0 ∧ askC ws cv cs (lcL ws cv cs 4000) = 0 ∧ (plW ws cv (lcL ws cv cs 4000) false).length = 0 ∧ sumAt cs (lcL ws cv cs 4000) ≤ sumAt cs (gvL ws cv cs)) ∨
    (gvC ws cv cs = 3 ∧ lcC ws cv cs 4000 = 3) := by
  have i0 : Idx cv [] := fun _ h => absurd h (Nat.not_lt_zero _)
  cases hR : gvR ws cv cs with
  | some R =>
    left
    obtain ⟨e1, e2⟩ := gv_some h.ok hR
    obtain ⟨hA, hi⟩ := gvK_some _ _ R i0 hR
    have hs : Rises 0 ((cv.length : Int) - 1) (srt cv R) := rises_plKn _ _
    have hA2 : AllC ws cv (srt cv R) := (allC_congr (srt_mem hi)).2 hA
    rw [e1, e2]
    rcases least_law h with ⟨l1, l2, l3, l4⟩ | ⟨_, l2⟩
    · exact ⟨rfl, l1, ask_yes h.ok hs, ask_yes h.ok l3, left_zero.2 l2, l4 _ hs hA2⟩
    · exact (l2 _ hs hA2).elim
  | none =>
    right
    obtain ⟨_, e2⟩ := gv_none h.ok hR
    refine ⟨e2, ?_⟩
    rcases least_law h with ⟨l1, l2, l3, l4⟩ | ⟨l1, _⟩
    · exfalso
      have hc : Can ws cv := fun y hy => by
        obtain ⟨c, h1, h2⟩ := l2 y hy
        have := rises_in l3 c h1
        exact ⟨c.toNat, by omega, h2⟩
      have hlt : (plW ws cv [] false).length < ws.length + 1 := by
        have := plK_le (fun y => bp (cvd cv [] y) = false) ws.length
        unfold plW
        omega
      obtain ⟨R, hR2⟩ := gvK_can (cs := cs) hc (ws.length + 1) [] hlt
      have : gvR ws cv cs = some R := hR2
      rw [hR] at this
      simp at this
    · exact l1
end Go.Proofs.Ytocbojbgadcpcaa
