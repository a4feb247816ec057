/-
  OWN WORK, generic over any program: trees that hand memory over: from a state to such a tree, and back.
-/
import Derived.Test.YtiaemddmkmfijaaGreatDoorOwnJ
namespace Go.Own
open Go Go.RowKit
variable [GL]
set_option linter.unusedSectionVars false

theorem ch_gt (ν i : Nat) : ν < ch ν i ∧ 65536 ≤ ch ν i := by
  unfold ch
  have : 0 ≤ (ν + i) * (ν + i + 1) := Nat.zero_le _
  omega
theorem ch_inj {ν i ν' i' : Nat} (h : ch ν i = ch ν' i') : ν = ν' ∧ i = i' := by
  unfold ch at h
  have key : ∀ s s' a a' : Nat, a ≤ s → s < s' → 65536 + s * (s + 1) + a ≠ 65536 + s' * (s' + 1) + a' := by
    intro s s' a a' ha hs
    have h1 : (s + 1) * (s + 1 + 1) ≤ s' * (s' + 1) := Nat.mul_le_mul (by omega) (by omega)
    have h2 : (s + 1) * (s + 1 + 1) = s * (s + 1) + 2 * (s + 1) := by
      rw [show s + 1 + 1 = s + 2 from rfl, Nat.mul_comm (s + 1) (s + 2), Nat.add_mul]
    omega
  have hs : ν + i = ν' + i' := by
    rcases Nat.lt_trichotomy (ν + i) (ν' + i') with h1 | h1 | h1
    · exact absurd h (key _ _ _ _ (by omega) h1)
    · exact h1
    · exact absurd h.symm (key _ _ _ _ (by omega) h1)
  rw [hs] at h
  omega

section
variable {P : Program} {okA : Nat → Prop} {w0 : Base} {s : ASt} {m : Nat → Option Nat} {a : Act} {w : World}

theorem repA_ones {E : Env} {cs : List AVal} {vs : List Value} (h : RepA E cs vs) : ∀ v ∈ vs, v.oneCell' = true := repA_one h
theorem repA_of_L {E : Env} : ∀ {cs : List AVal} {vs : List Value}, RepL E cs vs → (∀ v ∈ vs, v.oneCell' = true) → RepA E cs vs
  | [], _, h, _ => h
  | c :: cs, _, ⟨v, r, e, hv, hl⟩, h1 => by
    subst e
    exact ⟨v, r, rfl, h1 v (by simp), hv, repA_of_L hl fun u hu => h1 u (by simp [hu])⟩
theorem xvl_length {sm s : ASt} : ∀ {xs : List AVal} {cs : List XT}, XVL sm s xs cs → xs.length = cs.length
  | [], [], _ => rfl
  | _ :: _, _ :: _, h => by simp [xvl_length h.2]
  | [], _ :: _, h => h.elim
  | _ :: _, [], h => h.elim

mutual
theorem xv_sound (S : Sim okA w0 s m a w) {ok : Nat → Prop} (hok : ∀ b, (envOf okA w0.new s.heap s.gen m w).ok b → ok b) {sm : ASt} (hsub : ∀ β blk, sm.heap β = some blk → s.heap β = some blk)
    (t0 : Bool) (hown : t0 = false → ∀ β blk b, sm.heap β = some blk → m β = some b → ok b) :
    ∀ (t : XT) (x : AVal) (v : Value), XV sm s x t → (t0 = true → xtree s x t = true) → RepV (envOf okA w0.new s.heap s.gen m w) x v → RepX (treeEnv w ok) t v ((xn s x t).filterMap m)
  | .v t, x, v, h, ht, hr => by
    have h' : snap 6 sm x = some t := by cases x <;> exact h
    have ht' : t0 = true → x.tree = true := fun e => by have := ht e; cases x <;> exact this
    have e : xn s x (.v t) = [] := by cases x <;> rfl
    obtain ⟨h1, h2⟩ := snap_sound S hok t0 hsub hown 6 x t v h' ht' hr
    rw [e]
    exact ⟨rfl, h2, h1⟩
  | .ol sz cells n, x, v, h, ht, hr => by
    cases x <;> simp only [XV] at h <;> try exact h.elim
    case nl =>
      obtain ⟨rfl, rfl⟩ := h
      obtain ⟨ad, rfl⟩ := hr
      exact ⟨by simp, ad, 0, rfl, Nat.le_refl _, Nat.zero_le _, .inl ⟨rfl, rfl⟩⟩
    case own β g off n' =>
      split at h
      case h_2 => exact h.elim
      rename_i blk hb
      obtain ⟨rfl, rfl, hsz, hlen, hxl⟩ := h
      obtain ⟨hβ, hg⟩ := blkOf_spec hb
      obtain ⟨_, _, hp⟩ := hr
      obtain ⟨ad, c, rfl, hn, hcm, hcc, hcz⟩ := hp _ _ (loc_of hβ hg)
      have hcl : cells.length = n' * sz := by rw [← xvl_length hxl, List.length_take]; omega
      have e : xn s (.own β g 0 n') (.ol sz cells n') = β :: xnL s (blk.cells.take (n' * sz)) cells := by simp only [xn, hb]
      have ht' : t0 = true → xtreeL s (blk.cells.take (n' * sz)) cells = true := fun e => by have := ht e; simpa only [xtree, hb] using this
      rw [e]
      refine ⟨hcl, ad, c, rfl, hn, hcm, ?_⟩
      by_cases h0 : c = 0
      · have hn0 : n' = 0 := by omega
        have hz : m β = none := hcz rfl h0
        subst hn0
        have hc0 : cells = [] := List.eq_nil_of_length_eq_zero (by simpa using hcl)
        subst hc0
        refine .inl ⟨h0, ?_⟩
        have : xnL s (List.take (0 * sz) blk.cells) [] = [] := by cases (List.take (0 * sz) blk.cells) <;> rfl
        rw [this, List.filterMap_cons, hz]
        rfl
      · obtain ⟨b, hm, rfl, arr', T', fz', hh', hroom⟩ := hcc.resolve_left h0
        obtain ⟨_, ⟨arr, T, hh, hla⟩, hC⟩ := (S.blks β blk hβ).real b hm
        have hh2 : w.heap[b]? = some (.cells arr' T' fz') := hh'
        rw [hh] at hh2
        simp only [Option.some.injEq, Obj.cells.injEq] at hh2
        obtain ⟨rfl, rfl, rfl⟩ := hh2
        obtain ⟨vs, hA, hcell⟩ := repC_vals (repC_take (n' * sz) hC)
        refine .inr ⟨h0, b, _, vs, rfl, by rw [List.filterMap_cons, hm], ⟨arr, T, hh, by omega, by rw [Nat.zero_add, hsz] at hroom; exact hroom⟩, xvl_sound S hok hsub t0 hown cells _ vs true hxl ht' (repA_L hA) (fun _ => repA_one hA), fun j v hj => ?_⟩
        have := hcell j v hj
        rwa [Nat.zero_add] at this
  | .op cells, x, v, h, ht, hr => by
    cases x <;> simp only [XV] at h <;> try exact h.elim
    case ptr β g off =>
      split at h
      case h_2 => exact h.elim
      rename_i blk hb
      obtain ⟨rfl, hxl⟩ := h
      obtain ⟨hβ, hg⟩ := blkOf_spec hb
      obtain ⟨_, _, hp⟩ := hr
      obtain ⟨b, hm, rfl⟩ := hp _ _ (loc_of hβ hg)
      have e : xn s (.ptr β g 0) (.op cells) = β :: xnL s blk.cells cells := by simp only [xn, hb]
      have ht' : t0 = true → xtreeL s blk.cells cells = true := fun e => by have := ht e; simpa only [xtree, hb] using this
      obtain ⟨_, ⟨arr, T, hh, hla⟩, hC⟩ := (S.blks β blk hβ).real b hm
      obtain ⟨vs, hA, hcell⟩ := repC_vals hC
      rw [e]
      refine ⟨b, _, vs, rfl, by rw [List.filterMap_cons, hm], ⟨arr, T, hh, by rw [← xvl_length hxl]; exact hla⟩, xvl_sound S hok hsub t0 hown cells _ vs true hxl ht' (repA_L hA) (fun _ => repA_one hA), fun j v hj => ?_⟩
      have := hcell j v hj
      rwa [Nat.zero_add] at this
  | .agg cs, x, v, h, ht, hr => by
    cases x <;> simp only [XV] at h <;> try exact h.elim
    case agg as =>
      obtain ⟨vs, rfl, hA⟩ := hr
      exact ⟨vs, rfl, xvl_sound S hok hsub t0 hown cs as vs true h ht (repA_L hA) (fun _ => repA_one hA)⟩
  | .tup cs, x, v, h, ht, hr => by
    cases x <;> simp only [XV] at h <;> try exact h.elim
    case tup as =>
      obtain ⟨vs, rfl, hA⟩ := hr
      exact ⟨vs, rfl, xvl_sound S hok hsub t0 hown cs as vs false h ht hA (fun e => by simp at e)⟩
theorem xvl_sound (S : Sim okA w0 s m a w) {ok : Nat → Prop} (hok : ∀ b, (envOf okA w0.new s.heap s.gen m w).ok b → ok b) {sm : ASt} (hsub : ∀ β blk, sm.heap β = some blk → s.heap β = some blk)
    (t0 : Bool) (hown : t0 = false → ∀ β blk b, sm.heap β = some blk → m β = some b → ok b) :
    ∀ (cs : List XT) (xs : List AVal) (vs : List Value) (one : Bool), XVL sm s xs cs → (t0 = true → xtreeL s xs cs = true) → RepL (envOf okA w0.new s.heap s.gen m w) xs vs → (one = true → ∀ v ∈ vs, v.oneCell' = true) →
      RepXL (treeEnv w ok) one cs vs ((xnL s xs cs).filterMap m)
  | [], xs, vs, one, h, _, hr, _ => by
    cases xs with
    | nil => exact ⟨hr, rfl⟩
    | cons _ _ => exact h.elim
  | c :: cs, xs, vs, one, h, ht, hr, h1 => by
    cases xs with
    | nil => exact h.elim
    | cons x xs =>
      obtain ⟨v, r, rfl, hv, hl⟩ := hr
      have ht' : t0 = true → xtree s x c = true ∧ xtreeL s xs cs = true := fun e => by simpa [xtreeL] using ht e
      refine ⟨v, r, _, _, rfl, ?_, fun e => h1 e v (by simp), xv_sound S hok hsub t0 hown c x v h.1 (fun e => (ht' e).1) hv, xvl_sound S hok hsub t0 hown cs xs r one h.2 (fun e => (ht' e).2) hl (fun e u hu => h1 e u (by simp [hu]))⟩
      show ((xn s x c) ++ (xnL s xs cs)).filterMap m = _
      rw [List.filterMap_append]
end

/-- a name, its block, and where it lies -/
abbrev Zs := List ((Nat × Blk) × Option Nat)
structure GoodZ (E' : Env) (z : (Nat × Blk) × Option Nat) : Prop where
  virt : z.2 = none → z.1.2.cells = []
  real : ∀ b, z.2 = some b → (∃ arr T, E'.w.heap[b]? = some (.cells arr T (0, 0)) ∧ z.1.2.cells.length ≤ arr.size) ∧ RepC E' z.1.2.cells b 0
theorem embL_length {G ν : Nat} : ∀ (cs : List XT) (i : Nat), (embL G ν i cs).1.length = cs.length
  | [], _ => rfl
  | c :: cs, i => by simp [embL, embL_length cs (i + 1)]
mutual
theorem emb_gens {G : Nat} : ∀ (t : XT) (ν : Nat), ∀ p ∈ (emb G ν t).2, p.2.gen = G
  | .v a, ν, p, h => by simp [emb] at h
  | .ol sz cells n, ν, p, h => by
    simp only [emb, List.mem_cons] at h
    rcases h with rfl | h
    · rfl
    · exact embL_gens cells ν 0 p h
  | .op cells, ν, p, h => by
    simp only [emb, List.mem_cons] at h
    rcases h with rfl | h
    · rfl
    · exact embL_gens cells ν 0 p h
  | .agg cs, ν, p, h => embL_gens cs ν 0 p h
  | .tup cs, ν, p, h => embL_gens cs ν 0 p h
theorem embL_gens {G : Nat} : ∀ (cs : List XT) (ν i : Nat), ∀ p ∈ (embL G ν i cs).2, p.2.gen = G
  | [], ν, i, p, h => by simp [embL] at h
  | c :: cs, ν, i, p, h => by
    simp only [embL, List.mem_append] at h
    rcases h with h | h
    · exact emb_gens c _ p h
    · exact embL_gens cs ν (i + 1) p h
end

theorem own_parts {E' : Env} {w' : World} (hw : E'.w = w') {cells : List XT} {as : List AVal} {vs : List Value} {b : Nat} (hl : as.length = cells.length)
    (hh : ∃ arr T, w'.heap[b]? = some (.cells arr T (0, 0)) ∧ cells.length ≤ arr.size) (hr : RepL E' as vs) (h1 : ∀ v ∈ vs, v.oneCell' = true) (hc : ∀ (j : Nat) (v : Value), vs[j]? = some v → w'.cell? ⟨b, j, none⟩ = some v) :
    (∃ arr T, E'.w.heap[b]? = some (.cells arr T (0, 0)) ∧ as.length ≤ arr.size) ∧ RepC E' as b 0 := by
  obtain ⟨arr, T, q1, q2⟩ := hh
  refine ⟨⟨arr, T, by rw [hw]; exact q1, by omega⟩, repC_of (repA_of_L hr h1) fun j v hj => ?_⟩
  rw [hw, Nat.zero_add]
  exact hc j v hj

mutual
theorem emb_sound {w' : World} {ok' : Nat → Prop} {G : Nat} : ∀ (t : XT) (ν : Nat) (v : Value) (S : List Nat), RepX (treeEnv w' ok') t v S → ∃ Z : Zs, Z.map (·.1) = (emb G ν t).2 ∧ Z.filterMap (·.2) = S ∧
    ∀ E' : Env, E'.w = w' → (∀ b, ok' b → E'.ok b) → G < E'.gen → (∀ z ∈ Z, E'.loc z.1.1 G = some (z.2, z.1.2.size)) → RepV E' (emb G ν t).1 v ∧ ∀ z ∈ Z, GoodZ E' z
  | .v a, ν, v, S, ⟨hS, ht, hr⟩ => by
    refine ⟨[], rfl, hS.symm, fun E' hw hok hg hloc => ⟨?_, by simp⟩⟩
    exact repV_tree (E := treeEnv w' ok') (fun b hb => ⟨hok b hb, by rw [hw]; rfl⟩) a v ht hr
  | .ol sz cells n, ν, v, S, ⟨hcl, ad, c, hv, hn, hcm, hcc⟩ => by
    subst hv
    rcases hcc with ⟨hc0, rfl⟩ | ⟨hc0, b, S', vs, rfl, rfl, hh, hL, hcell⟩
    · have hn0 : n = 0 := by omega
      subst hn0
      have : cells = [] := List.eq_nil_of_length_eq_zero (by simpa using hcl)
      subst this
      refine ⟨[((ν, ⟨G, sz, []⟩), none)], rfl, rfl, fun E' hw hok hg hloc => ⟨⟨hg, rfl, fun r sz' e => ⟨ad, c, rfl, hn, hcm, .inl hc0, fun _ _ => ?_⟩⟩, ?_⟩⟩
      · have := hloc _ (List.mem_singleton.2 rfl)
        rw [this] at e
        simp only [Option.some.injEq, Prod.mk.injEq] at e
        exact e.1.symm
      · intro z hz
        rw [List.mem_singleton.1 hz]
        exact ⟨fun _ => rfl, fun b hb => by simp at hb⟩
    · obtain ⟨Z, h1, h2, h3⟩ := embL_sound (G := G) cells ν 0 true vs S' hL
      refine ⟨((ν, ⟨G, sz, (embL G ν 0 cells).1⟩), some b) :: Z, by simp [emb, h1], by simp [h2], fun E' hw hok hg hloc => ?_⟩
      obtain ⟨q1, q2, q3⟩ := h3 E' hw hok hg fun z hz => hloc z (by simp [hz])
      obtain ⟨arr, T, hh1, hh2, hh3⟩ := hh
      refine ⟨⟨hg, rfl, fun r sz' e => ⟨_, c, rfl, hn, hcm, .inr ⟨b, ?_, rfl, arr, T, (0, 0), by rw [hw]; exact hh1, ?_⟩, fun _ e => (hc0 e).elim⟩⟩, ?_⟩
      · have := hloc _ (List.mem_cons_self ..)
        rw [this] at e
        simp only [Option.some.injEq, Prod.mk.injEq] at e
        exact e.1.symm
      · have := hloc _ (List.mem_cons_self ..)
        rw [this] at e
        simp only [Option.some.injEq, Prod.mk.injEq] at e
        rw [Nat.zero_add, ← e.2]
        exact hh3
      · intro z hz
        rcases List.mem_cons.1 hz with rfl | hz
        · refine ⟨fun e => by simp at e, fun b' hb' => ?_⟩
          simp only [Option.some.injEq] at hb'
          subst hb'
          exact own_parts hw (embL_length cells 0) ⟨arr, T, hh1, hh2⟩ q1 (q2 rfl) hcell
        · exact q3 z hz
  | .op cells, ν, v, S, ⟨b, S', vs, hv, hS, hh, hL, hcell⟩ => by
    subst hv hS
    obtain ⟨Z, h1, h2, h3⟩ := embL_sound (G := G) cells ν 0 true vs S' hL
    refine ⟨((ν, ⟨G, cells.length, (embL G ν 0 cells).1⟩), some b) :: Z, by simp [emb, h1], by simp [h2], fun E' hw hok hg hloc => ?_⟩
    obtain ⟨q1, q2, q3⟩ := h3 E' hw hok hg fun z hz => hloc z (by simp [hz])
    refine ⟨⟨hg, rfl, fun r sz' e => ⟨b, ?_, rfl⟩⟩, ?_⟩
    · have := hloc _ (List.mem_cons_self ..)
      rw [this] at e
      simp only [Option.some.injEq, Prod.mk.injEq] at e
      exact e.1.symm
    · intro z hz
      rcases List.mem_cons.1 hz with rfl | hz
      · refine ⟨fun e => by simp at e, fun b' hb' => ?_⟩
        simp only [Option.some.injEq] at hb'
        subst hb'
        exact own_parts hw (embL_length cells 0) hh q1 (q2 rfl) hcell
      · exact q3 z hz
  | .agg cs, ν, v, S, ⟨vs, hv, hL⟩ => by
    subst hv
    obtain ⟨Z, h1, h2, h3⟩ := embL_sound (G := G) cs ν 0 true vs S hL
    refine ⟨Z, h1, h2, fun E' hw hok hg hloc => ?_⟩
    obtain ⟨q1, q2, q3⟩ := h3 E' hw hok hg hloc
    exact ⟨⟨vs, rfl, repA_of_L q1 (q2 rfl)⟩, q3⟩
  | .tup cs, ν, v, S, ⟨vs, hv, hL⟩ => by
    subst hv
    obtain ⟨Z, h1, h2, h3⟩ := embL_sound (G := G) cs ν 0 false vs S hL
    refine ⟨Z, h1, h2, fun E' hw hok hg hloc => ?_⟩
    obtain ⟨q1, q2, q3⟩ := h3 E' hw hok hg hloc
    exact ⟨⟨vs, rfl, q1⟩, q3⟩
theorem embL_sound {w' : World} {ok' : Nat → Prop} {G : Nat} : ∀ (cs : List XT) (ν i : Nat) (one : Bool) (vs : List Value) (S : List Nat), RepXL (treeEnv w' ok') one cs vs S → ∃ Z : Zs, Z.map (·.1) = (embL G ν i cs).2 ∧ Z.filterMap (·.2) = S ∧
    ∀ E' : Env, E'.w = w' → (∀ b, ok' b → E'.ok b) → G < E'.gen → (∀ z ∈ Z, E'.loc z.1.1 G = some (z.2, z.1.2.size)) → RepL E' (embL G ν i cs).1 vs ∧ (one = true → ∀ v ∈ vs, v.oneCell' = true) ∧ ∀ z ∈ Z, GoodZ E' z
  | [], ν, i, one, vs, S, ⟨hv, hS⟩ => ⟨[], rfl, hS.symm, fun E' _ _ _ _ => ⟨hv, fun _ v h => by simp [hv] at h, by simp⟩⟩
  | c :: cs, ν, i, one, vs, S, ⟨v, r, S1, S2, hvs, hS, h1, hc, hL⟩ => by
    subst hvs hS
    obtain ⟨Z1, a1, a2, a3⟩ := emb_sound (G := G) c (ch ν i) v S1 hc
    obtain ⟨Z2, b1, b2, b3⟩ := embL_sound (G := G) cs ν (i + 1) one r S2 hL
    refine ⟨Z1 ++ Z2, by simp [embL, a1, b1], by simp [a2, b2], fun E' hw hok hg hloc => ?_⟩
    obtain ⟨p1, p2⟩ := a3 E' hw hok hg fun z hz => hloc z (by simp [hz])
    obtain ⟨q1, q2, q3⟩ := b3 E' hw hok hg fun z hz => hloc z (by simp [hz])
    refine ⟨⟨v, r, rfl, p1, q1⟩, fun e u hu => ?_, fun z hz => ?_⟩
    · rcases List.mem_cons.1 hu with rfl | hu
      · exact h1 e
      · exact q2 e u hu
    · rcases List.mem_append.1 hz with hz | hz
      · exact p2 z hz
      · exact q3 z hz
end
end
end Go.Own
