/-
  OWN WORK: what the searches for choices find: plain.
-/
import Derived.Test.YtocbojbgadcpcaaSiL
import Derived.Test.YtocbojbgadcpcaaSiM
import Derived.Test.YtocbojbgadcpcaaSiO
import Derived.Test.YtocbojbgadcpcaaDrS
namespace Go.Proofs.Ytocbojbgadcpcaa
open Go Go.Own Go.Proofs
set_option maxHeartbeats 4000000
set_option maxRecDepth 20000
set_option linter.unusedSimpArgs false
/-! ### the budget lasts -/
section
variable {N n : Nat} {g : List Int → SS → SS}
theorem kids_bud {ch : List Int} (hg : ∀ (c : Nat) (s : SS), n ≤ c → c < N → ((2 ^ (N - (c + 1)) : Nat) : Int) ≤ s.b → s.b - ((2 ^ (N - (c + 1)) : Nat) : Int) ≤ (g (ch ++ [(c : Int)]) s).b) : ∀ (k c : Nat) (s : SS), n ≤ c → c + k = N → ((2 ^ k : Nat) : Int) - 1 ≤ s.b → s.b - (((2 ^ k : Nat) : Int) - 1) ≤ (kids g ch k c s).b
  | 0, _, s, _, _, _ => by show s.b - (((2 ^ 0 : Nat) : Int) - 1) ≤ s.b; simp
  | k + 1, c, s, h0, h1, h2 => by
    have e : N - (c + 1) = k := by omega
    have hp : 2 ^ (k + 1) = 2 ^ k + 2 ^ k := by rw [Nat.pow_succ]; omega
    have hpos : 0 < 2 ^ k := Nat.pos_of_ne_zero (by simp)
    have h3 := hg c s h0 (by omega) (by rw [e]; omega)
    rw [e] at h3
    unfold kids
    rw [if_neg (by omega)]
    have h4 := kids_bud hg k (c + 1) (g (ch ++ [(c : Int)]) s) (by omega) (by omega) (by omega)
    omega
end
theorem node_bud {cv : List (List Int)} {leaf : List Int → SS → Option SS} (hl : LeafOk cv leaf) : ∀ (f : Nat) (ch : List Int) (s : SS), Chn cv ch → cv.length - nextOf ch < f → ((2 ^ (cv.length - nextOf ch) : Nat) : Int) ≤ s.b → s.b - ((2 ^ (cv.length - nextOf ch) : Nat) : Int) ≤ (node leaf cv.length f ch s).b
  | 0, _, _, _, h, _ => absurd h (Nat.not_lt_zero _)
  | f + 1, ch, s, hch, hf, hb => by
    have hpos : 0 < 2 ^ (cv.length - nextOf ch) := Nat.pos_of_ne_zero (by simp)
    have hnx := hch.nx
    unfold node
    rw [if_neg (by omega)]
    split
    · rename_i s2 hs2
      have := (hl _ _ _ hch hs2).1
      rw [this]
      show _ ≤ s.b - 1
      omega
    · have := kids_bud (N := cv.length) (n := nextOf ch) (g := node leaf cv.length f) (ch := ch) (fun c s hn hc hb => by
        have h1 := chn_snoc hch hn hc
        have h2 := nextOf_snoc ch c
        have := node_bud hl f (ch ++ [(c : Int)]) s h1 (by rw [h2]; omega) (by rw [h2]; exact hb)
        rw [h2] at this
        exact this) (cv.length - nextOf ch) (nextOf ch) ⟨s.b - 1, s.m, s.best⟩ (Nat.le_refl _) (by omega) (by show _ ≤ s.b - 1; omega)
      have e : (⟨s.b - 1, s.m, s.best⟩ : SS).b = s.b - 1 := rfl
      rw [e] at this
      omega
/-! ### what is found is as good as all that there is -/
/-- a rising tail from n on -/
def Ext (N : Nat) : Nat → List Int → Prop
  | _, [] => True
  | n, x :: T => ∃ c : Nat, x = c ∧ n ≤ c ∧ c < N ∧ Ext N (c + 1) T
theorem ext_of {N : Nat} : ∀ (X : List Int) (n : Nat), X.Pairwise (· < ·) → (∀ x ∈ X, (n : Int) ≤ x ∧ x < N) → Ext N n X
  | [], _, _, _ => trivial
  | x :: X, n, h1, h2 => by
    rw [List.pairwise_cons] at h1
    have hx := h2 x (by simp)
    refine ⟨x.toNat, by omega, by omega, by omega, ext_of X _ h1.2 fun y hy => ?_⟩
    have := h1.1 y hy
    have := h2 y (by simp [hy])
    omega
theorem ext_rises {N : Nat} {X : List Int} (h : Rises 0 ((N : Int) - 1) X) : Ext N 0 X :=
  ext_of X 0 (rises_sorted h) fun x hx => by
    obtain ⟨i, hi, rfl⟩ := List.getElem_of_mem hx
    have := (h i hi).1
    omega
/-- how good what is best is: G; never worse: M -/
structure Goal (cv : List (List Int)) (leaf : List Int → SS → Option SS) (V : List Int → Prop) (w : List Int → Int) (M : Int → Int → Prop) (G : Int → Int → Prop) : Prop where
  refl : ∀ m, M m m
  trans : ∀ a b c, M a b → M b c → M a c
  keep : ∀ a b v, G a v → M a b → G b v
  leafG : ∀ ch s s', Chn cv ch → leaf ch s = some s' → M s.m s'.m ∧ ∀ T, Ext cv.length (nextOf ch) T → V (ch ++ T) → G s'.m (w (ch ++ T))
  noneG : ∀ ch s, Chn cv ch → leaf ch s = none → ¬ V ch
section
variable {cv : List (List Int)} {leaf : List Int → SS → Option SS} {V : List Int → Prop} {w : List Int → Int} {M G : Int → Int → Prop} {g : List Int → SS → SS} {n : Nat}
theorem kids_goal (H : Goal cv leaf V w M G) {ch : List Int}
    (hb : ∀ (c : Nat) (s : SS), n ≤ c → c < cv.length → ((2 ^ (cv.length - (c + 1)) : Nat) : Int) ≤ s.b → s.b - ((2 ^ (cv.length - (c + 1)) : Nat) : Int) ≤ (g (ch ++ [(c : Int)]) s).b)
    (hg : ∀ (c : Nat) (s : SS), n ≤ c → c < cv.length → ((2 ^ (cv.length - (c + 1)) : Nat) : Int) ≤ s.b → M s.m (g (ch ++ [(c : Int)]) s).m ∧ ∀ T, Ext cv.length (c + 1) T → V (ch ++ (c : Int) :: T) → G (g (ch ++ [(c : Int)]) s).m (w (ch ++ (c : Int) :: T))) :
    ∀ (k c : Nat) (s : SS), n ≤ c → c + k = cv.length → ((2 ^ k : Nat) : Int) - 1 ≤ s.b → M s.m (kids g ch k c s).m ∧ ∀ (d : Nat) (T : List Int), c ≤ d → d < cv.length → Ext cv.length (d + 1) T → V (ch ++ (d : Int) :: T) → G (kids g ch k c s).m (w (ch ++ (d : Int) :: T))
  | 0, c, s, h0, h1, _ => ⟨H.refl _, fun d T h2 h3 => by omega⟩
  | k + 1, c, s, h0, h1, h2 => by
    have e : cv.length - (c + 1) = k := by omega
    have hp : 2 ^ (k + 1) = 2 ^ k + 2 ^ k := by rw [Nat.pow_succ]; omega
    have hpos : 0 < 2 ^ k := Nat.pos_of_ne_zero (by simp)
    have h3 := hb c s h0 (by omega) (by rw [e]; omega)
    obtain ⟨h4, h5⟩ := hg c s h0 (by omega) (by rw [e]; omega)
    rw [e] at h3
    unfold kids
    rw [if_neg (by omega)]
    obtain ⟨h6, h7⟩ := kids_goal H hb hg k (c + 1) (g (ch ++ [(c : Int)]) s) (by omega) (by omega) (by omega)
    refine ⟨H.trans _ _ _ h4 h6, fun d T hd1 hd2 hT hV => ?_⟩
    by_cases ed : d = c
    · subst ed
      exact H.keep _ _ _ (h5 T hT hV) h6
    · exact h7 d T (by omega) hd2 hT hV
theorem node_goal (hl : LeafOk cv leaf) (H : Goal cv leaf V w M G) : ∀ (f : Nat) (ch : List Int) (s : SS), Chn cv ch → cv.length - nextOf ch < f → ((2 ^ (cv.length - nextOf ch) : Nat) : Int) ≤ s.b →
    M s.m (node leaf cv.length f ch s).m ∧ ∀ T, Ext cv.length (nextOf ch) T → V (ch ++ T) → G (node leaf cv.length f ch s).m (w (ch ++ T))
  | 0, _, _, _, h, _ => absurd h (Nat.not_lt_zero _)
  | f + 1, ch, s, hch, hf, hb => by
    have hpos : 0 < 2 ^ (cv.length - nextOf ch) := Nat.pos_of_ne_zero (by simp)
    have hnx := hch.nx
    unfold node
    rw [if_neg (by omega)]
    split
    · rename_i s2 hs2
      have h8 := H.leafG ch ⟨s.b - 1, s.m, s.best⟩ s2 hch (by simpa using hs2)
      exact h8
    · rename_i hno
      obtain ⟨h1, h2⟩ := kids_goal (n := nextOf ch) (g := node leaf cv.length f) H (ch := ch) (fun c s hn hc hb => by
          have h1 := chn_snoc hch hn hc
          have h2 := nextOf_snoc ch c
          have := node_bud hl f (ch ++ [(c : Int)]) s h1 (by rw [h2]; omega) (by rw [h2]; exact hb)
          rw [h2] at this
          exact this) (fun c s hn hc hb => by
          have h1 := chn_snoc hch hn hc
          have h2 := nextOf_snoc ch c
          have := node_goal hl H f (ch ++ [(c : Int)]) s h1 (by rw [h2]; omega) (by rw [h2]; exact hb)
          rw [h2] at this
          refine ⟨this.1, fun T hT hV => ?_⟩
          have h5 := this.2 T hT (by rw [List.append_assoc]; exact hV)
          rw [List.append_assoc] at h5
          exact h5) (cv.length - nextOf ch) (nextOf ch) ⟨s.b - 1, s.m, s.best⟩ (Nat.le_refl _) (by omega) (by show _ ≤ s.b - 1; omega)
      refine ⟨h1, fun T hT hV => ?_⟩
      cases T with
      | nil =>
        rw [List.append_nil] at hV
        exact (H.noneG ch _ hch hno hV).elim
      | cons x T =>
        obtain ⟨c, rfl, h3, h4, h5⟩ := hT
        exact h2 c T h3 h4 h5 hV
end
/-! ### what is best is a choice -/
structure Chr (cv : List (List Int)) (ch : List Int) : Prop where
  chn : Chn cv ch
  ris : Rises 0 ((cv.length : Int) - 1) ch
  lt : ∀ y ∈ ch, y < nextOf ch
theorem chr_nil (cv : List (List Int)) : Chr cv [] := ⟨chn_nil cv, fun _ h => absurd h (Nat.not_lt_zero _), by simp⟩
theorem chr_snoc {cv : List (List Int)} {ch : List Int} {c : Nat} (h : Chr cv ch) (h1 : nextOf ch ≤ c) (h2 : c < cv.length) : Chr cv (ch ++ [(c : Int)]) :=
  ⟨chn_snoc h.chn h1 h2, rises_snoc h.ris (by omega) (by omega) (fun y hy => by have := h.lt y hy; omega), fun y hy => by
    rw [nextOf_snoc]
    rcases List.mem_append.1 hy with hy | hy
    · have := h.lt y hy; omega
    · simp only [List.mem_singleton] at hy; omega⟩
def BestIs (cv : List (List Int)) (V : List Int → Prop) (w : List Int → Int) (s : SS) : Prop := s.m < 0 ∨ (V s.best ∧ w s.best = s.m ∧ Rises 0 ((cv.length : Int) - 1) s.best)
theorem kids_best {cv : List (List Int)} {g : List Int → SS → SS} {V : List Int → Prop} {w : List Int → Int} {ch : List Int} (hg : ∀ (c : Nat) (s : SS), nextOf ch ≤ c → c < cv.length → BestIs cv V w s → BestIs cv V w (g (ch ++ [(c : Int)]) s)) : ∀ (k c : Nat) (s : SS), nextOf ch ≤ c → c + k ≤ cv.length → BestIs cv V w s → BestIs cv V w (kids g ch k c s)
  | 0, _, s, _, _, hs => hs
  | k + 1, c, s, h1, h2, hs => by
    unfold kids
    split
    · exact hs
    · exact kids_best hg k (c + 1) _ (by omega) (by omega) (hg c s h1 (by omega) hs)
theorem node_best {cv : List (List Int)} {leaf : List Int → SS → Option SS} {V : List Int → Prop} {w : List Int → Int} (hl : ∀ ch s s', Chr cv ch → leaf ch s = some s' → BestIs cv V w s → BestIs cv V w s') : ∀ (f : Nat) (ch : List Int) (s : SS), Chr cv ch → BestIs cv V w s → BestIs cv V w (node leaf cv.length f ch s)
  | 0, _, _, _, hs => hs
  | f + 1, ch, s, hch, hs => by
    have hnx := hch.chn.nx
    unfold node
    split
    · exact hs
    · split
      · rename_i s2 hs2
        exact hl ch _ s2 hch hs2 hs
      · exact kids_best (fun c s h1 h2 h3 => node_best hl f _ s (chr_snoc hch h1 h2) h3) _ _ _ (Nat.le_refl _) (by omega) hs
/-! ### the best choice -/
theorem choose_goal (ws : List Int) (cv : List (List Int)) (count : Int) : Goal cv (leafC ws cv count) (fun X => (X.length : Int) = count) (fun X => sumAt ws (covL ws cv X)) (fun a b => a ≤ b) (fun a v => v ≤ a) := by
  refine ⟨fun m => Int.le_refl _, fun a b c h1 h2 => Int.le_trans h1 h2, fun a b v h1 h2 => Int.le_trans h1 h2, fun ch s s' hch h => ?_, fun ch s hch h => ?_⟩
  · unfold leafC at h
    split at h
    · rename_i hc
      simp only [Option.some.injEq] at h
      subst h
      have key : s.m ≤ (if s.m < sumAt ws (covL ws cv ch) then (⟨s.b, sumAt ws (covL ws cv ch), ch⟩ : SS) else s).m ∧ sumAt ws (covL ws cv ch) ≤ (if s.m < sumAt ws (covL ws cv ch) then (⟨s.b, sumAt ws (covL ws cv ch), ch⟩ : SS) else s).m := by
        split
        · exact ⟨by show s.m ≤ sumAt ws (covL ws cv ch); omega, Int.le_refl _⟩
        · exact ⟨Int.le_refl _, by omega⟩
      refine ⟨key.1, fun T _ hV => ?_⟩
      have : T = [] := List.eq_nil_of_length_eq_zero (by simp only [List.length_append] at hV; omega)
      subst this
      rw [List.append_nil]
      exact key.2
    · simp at h
  · unfold leafC at h
    split at h
    · simp at h
    · rename_i hc
      exact hc
theorem choose_best (ws : List Int) (cv : List (List Int)) (count : Int) : ∀ ch s s', Chr cv ch → leafC ws cv count ch s = some s' → BestIs cv (fun X => (X.length : Int) = count) (fun X => sumAt ws (covL ws cv X)) s → BestIs cv (fun X => (X.length : Int) = count) (fun X => sumAt ws (covL ws cv X)) s' := by
  intro ch s s' hch h hs
  unfold leafC at h
  split at h
  · rename_i hc
    simp only [Option.some.injEq] at h
    subst h
    split
    · exact .inr ⟨hc, rfl, hch.ris⟩
    · exact hs
  · simp at h
theorem two_pow6 {n : Nat} (h : n ≤ 6) : 2 ^ n ≤ 64 := by
  have : 2 ^ n ≤ 2 ^ 6 := Nat.pow_le_pow_right (by omega) h
  omega
theorem wgt_nonneg {ws : List Int} {cv : List (List Int)} {cs : List Int} (h : OkSit ws cv cs) (X : List Int) : sumAt ws (covL ws cv X) = wsum ws (covL ws cv X) ∧ 0 ≤ sumAt ws (covL ws cv X) := by
  have hle := plK_le (cvd cv X) ws.length
  have := h.w2
  obtain ⟨a1, a2, _⟩ := sumAt_wsum (ws := ws) (fun i hi => h.wt i hi) _ (covL ws cv X) rfl (by unfold covL; omega)
  exact ⟨a1, by rw [a1]; exact a2⟩
theorem best_law {ws : List Int} {cv : List (List Int)} {cs : List Int} (h : SitD ws cv cs) {count : Nat} (hc : count ≤ cv.length) :
    bcC ws cv cs count 4000 = 0 ∧ ((bcL ws cv cs count 4000).length = count) ∧ Rises 0 ((cv.length : Int) - 1) (bcL ws cv cs count 4000) ∧ ∀ X, Rises 0 ((cv.length : Int) - 1) X → X.length = count → sumAt ws (covL ws cv X) ≤ sumAt ws (covL ws cv (bcL ws cv cs count 4000)) := by
  have h6 := h.few
  have hp := two_pow6 h6
  have hb : ((2 ^ (cv.length - nextOf []) : Nat) : Int) ≤ (⟨4000, -1, []⟩ : SS).b := by
    show ((2 ^ (cv.length - 0) : Nat) : Int) ≤ 4000
    rw [Nat.sub_zero]
    omega
  have h1 := node_bud (leafC_ok ws cv count) (cv.length + 1) [] ⟨4000, -1, []⟩ (chn_nil cv) (by rw [nextOf_nil]; omega) hb
  obtain ⟨_, h2⟩ := node_goal (leafC_ok ws cv count) (choose_goal ws cv count) (cv.length + 1) [] ⟨4000, -1, []⟩ (chn_nil cv) (by rw [nextOf_nil]; omega) hb
  have h3 := node_best (choose_best ws cv count) (cv.length + 1) [] ⟨4000, -1, []⟩ (chr_nil cv) (.inl (by show (-1 : Int) < 0; omega))
  rw [nextOf_nil] at h1 h2
  simp only [List.nil_append, Nat.sub_zero] at h1 h2
  have hge : 0 ≤ (bcR ws cv count 4000).b := by
    unfold bcR
    omega
  obtain ⟨e1, e2⟩ := bc_yes (count := count) (budget := 4000) h.ok ⟨by omega, by omega⟩ ⟨by omega, by omega⟩ hge
  have all : ∀ X, Rises 0 ((cv.length : Int) - 1) X → X.length = count → sumAt ws (covL ws cv X) ≤ (bcR ws cv count 4000).m := fun X hX hl => h2 X (ext_rises hX) (by omega)
  -- the first ones are a choice
  have hex : ∃ X : List Int, Rises 0 ((cv.length : Int) - 1) X ∧ X.length = count := by
    refine ⟨(List.range count).map fun (i : Nat) => (i : Int), fun i hi => ?_, by simp⟩
    simp only [List.length_map, List.length_range] at hi
    simp only [List.getElem_map, List.getElem_range]
    omega
  obtain ⟨X, hX, hXl⟩ := hex
  have hm : 0 ≤ (bcR ws cv count 4000).m := Int.le_trans (wgt_nonneg h.ok X).2 (all X hX hXl)
  rw [e1]
  have h3' : BestIs cv (fun X => (X.length : Int) = count) (fun X => sumAt ws (covL ws cv X)) (bcR ws cv count 4000) := h3
  rcases h3' with h4 | ⟨h4, h5, h6⟩
  · omega
  · have h5' : sumAt ws (covL ws cv (bcR ws cv count 4000).best) = (bcR ws cv count 4000).m := h5
    exact ⟨e2, by omega, h6, fun Y hY hYl => by have := all Y hY hYl; omega⟩
/-! ### the cheapest cover -/
theorem cost_all {ws : List Int} {cv : List (List Int)} {cs : List Int} (h : OkSit ws cv cs) : ∀ i (hi : i < cs.length), 0 ≤ cs[i] ∧ cs[i] ≤ 1000000 := fun i hi => by have := h.cost i hi; omega
theorem ext_len {N : Nat} : ∀ (T : List Int) (n : Nat), Ext N n T → n + T.length ≤ N ∨ T = []
  | [], _, _ => .inr rfl
  | x :: T, n, ⟨c, _, h1, h2, h3⟩ => by
    left
    rcases ext_len T (c + 1) h3 with h | h
    · simp; omega
    · subst h; simp; omega
theorem cost_ext {ws : List Int} {cv : List (List Int)} {cs ch T : List Int} (h : OkSit ws cv cs) (hch : Chn cv ch) (hT : Ext cv.length (nextOf ch) T) : sumAt cs ch ≤ sumAt cs (ch ++ T) := by
  have hle := hch.le
  have hnx := hch.nx
  have hc2 := h.c2
  have hl := ext_len T _ hT
  have htl : T.length ≤ 20 := by
    rcases hl with h | h
    · omega
    · subst h; simp
  have hcost := cost_all h
  obtain ⟨a1, a2, _⟩ := sumAt_wsum (ws := cs) hcost _ ch rfl (by omega)
  obtain ⟨b1, b2, _⟩ := sumAt_wsum (ws := cs) hcost _ (ch ++ T) rfl (by simp; omega)
  obtain ⟨c1, c2, _⟩ := sumAt_wsum (ws := cs) hcost _ T rfl (by omega)
  rw [a1, b1]
  have : wsum cs (ch ++ T) = wsum cs ch + wsum cs T := by simp [wsum]
  omega
theorem least_goal {ws : List Int} {cv : List (List Int)} {cs : List Int} (h : OkSit ws cv cs) : Goal cv (leafV ws cv cs) (fun X => AllC ws cv X) (fun X => sumAt cs X) (fun a b => a < 0 ∨ (0 ≤ b ∧ b ≤ a)) (fun a v => 0 ≤ a ∧ a ≤ v) := by
  refine ⟨fun m => by omega, fun a b c h1 h2 => by omega, fun a b v h1 h2 => by omega, fun ch s s' hch hs => ?_, fun ch s hch hs => ?_⟩
  · have hc := cost_nonneg h (ch := ch) (by have := hch.le; have := hch.nx; have := h.c2; omega)
    unfold leafV at hs
    split at hs
    · rename_i ha
      simp only [Option.some.injEq] at hs
      subst hs
      have key : (s.m < 0 ∨ (0 ≤ (if s.m < 0 ∨ sumAt cs ch < s.m then (⟨s.b, sumAt cs ch, ch⟩ : SS) else s).m ∧ (if s.m < 0 ∨ sumAt cs ch < s.m then (⟨s.b, sumAt cs ch, ch⟩ : SS) else s).m ≤ s.m)) ∧ 0 ≤ (if s.m < 0 ∨ sumAt cs ch < s.m then (⟨s.b, sumAt cs ch, ch⟩ : SS) else s).m ∧ (if s.m < 0 ∨ sumAt cs ch < s.m then (⟨s.b, sumAt cs ch, ch⟩ : SS) else s).m ≤ sumAt cs ch := by
        split
        · rename_i hq
          show (s.m < 0 ∨ (0 ≤ sumAt cs ch ∧ sumAt cs ch ≤ s.m)) ∧ 0 ≤ sumAt cs ch ∧ sumAt cs ch ≤ sumAt cs ch
          omega
        · omega
      refine ⟨key.1, fun T hT _ => ?_⟩
      have := cost_ext h hch hT
      exact ⟨key.2.1, Int.le_trans key.2.2 this⟩
    · split at hs
      · rename_i hq
        simp only [Option.some.injEq] at hs
        subst hs
        refine ⟨.inr ⟨hq.1, Int.le_refl _⟩, fun T hT _ => ?_⟩
        have := cost_ext h hch hT
        exact ⟨hq.1, by omega⟩
      · simp at hs
  · unfold leafV at hs
    split at hs
    · simp at hs
    · rename_i ha
      exact fun hA => ha (left_zero.2 hA)
theorem least_best {ws : List Int} {cv : List (List Int)} {cs : List Int} : ∀ ch s s', Chr cv ch → leafV ws cv cs ch s = some s' → BestIs cv (fun X => AllC ws cv X) (fun X => sumAt cs X) s → BestIs cv (fun X => AllC ws cv X) (fun X => sumAt cs X) s' := by
  intro ch s s' hch hs hb
  unfold leafV at hs
  split at hs
  · rename_i ha
    simp only [Option.some.injEq] at hs
    subst hs
    split
    · exact .inr ⟨left_zero.1 ha, rfl, hch.ris⟩
    · exact hb
  · split at hs
    · simp only [Option.some.injEq] at hs
      subst hs
      exact hb
    · simp at hs
theorem least_law {ws : List Int} {cv : List (List Int)} {cs : List Int} (h : SitD ws cv cs) :
    (lcC ws cv cs 4000 = 0 ∧ AllC ws cv (lcL ws cv cs 4000) ∧ Rises 0 ((cv.length : Int) - 1) (lcL ws cv cs 4000) ∧ ∀ X, Rises 0 ((cv.length : Int) - 1) X → AllC ws cv X → sumAt cs (lcL ws cv cs 4000) ≤ sumAt cs X) ∨
    (lcC ws cv cs 4000 = 3 ∧ ∀ X, Rises 0 ((cv.length : Int) - 1) X → ¬ AllC ws cv X) := by
  have h6 := h.few
  have hp := two_pow6 h6
  have hb : ((2 ^ (cv.length - nextOf []) : Nat) : Int) ≤ (⟨4000, -1, []⟩ : SS).b := by
    show ((2 ^ (cv.length - 0) : Nat) : Int) ≤ 4000
    rw [Nat.sub_zero]
    omega
  have h1 := node_bud (leafV_ok h.ok) (cv.length + 1) [] ⟨4000, -1, []⟩ (chn_nil cv) (by rw [nextOf_nil]; omega) hb
  obtain ⟨_, h2⟩ := node_goal (leafV_ok h.ok) (least_goal h.ok) (cv.length + 1) [] ⟨4000, -1, []⟩ (chn_nil cv) (by rw [nextOf_nil]; omega) hb
  have h3 := node_best (least_best (ws := ws) (cs := cs)) (cv.length + 1) [] ⟨4000, -1, []⟩ (chr_nil cv) (.inl (by show (-1 : Int) < 0; omega))
  rw [nextOf_nil] at h1 h2
  simp only [List.nil_append, Nat.sub_zero] at h1 h2
  have hge : 0 ≤ (lcR ws cv cs 4000).b := by
    unfold lcR
    omega
  have all : ∀ X, Rises 0 ((cv.length : Int) - 1) X → AllC ws cv X → 0 ≤ (lcR ws cv cs 4000).m ∧ (lcR ws cv cs 4000).m ≤ sumAt cs X := fun X hX hA => h2 X (ext_rises hX) hA
  have h3' : BestIs cv (fun X => AllC ws cv X) (fun X => sumAt cs X) (lcR ws cv cs 4000) := h3
  by_cases hm : 0 ≤ (lcR ws cv cs 4000).m
  · obtain ⟨e1, e2⟩ := lc_yes (budget := 4000) h.ok ⟨by omega, by omega⟩ hge hm
    rw [e1]
    rcases h3' with h4 | ⟨h4, h5, h6⟩
    · omega
    · have h5' : sumAt cs (lcR ws cv cs 4000).best = (lcR ws cv cs 4000).m := h5
      exact .inl ⟨e2, h4, h6, fun X hX hA => by have := (all X hX hA).2; omega⟩
  · exact .inr ⟨(lc_none (budget := 4000) h.ok ⟨by omega, by omega⟩ hge hm).2, fun X hX hA => hm (all X hX hA).1⟩
end Go.Proofs.Ytocbojbgadcpcaa
