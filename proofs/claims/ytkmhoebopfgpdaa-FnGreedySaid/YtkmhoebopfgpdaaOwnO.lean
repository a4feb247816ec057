/-
  OWN WORK, generic over any program: the call of a function that writes what it is handed.
  OWN WORK, generic over any program: trees that hand memory over: from a state to such a tree, and back.
-/
import Derived.Test.YtkmhoebopfgpdaaOwnJ
namespace Go.Own
open Go Go.RowKit
variable [GL]
set_option linter.unusedSectionVars false

theorem ch_gt (ν i : Nat) : ν < ch ν i ∧ 65536 ≤ ch ν i := by
  unfold ch
  have : 0 ≤ (ν + i) * (ν + i + 1) := Nat.zero_le _
  omega
theorem ch_inj {ν i ν' i' : Nat} (h : ch ν i = ch ν' i') : ν = ν' ∧ i = i' := by
  unfold ch at h
  have key : ∀ s s' a a' : Nat, a ≤ s → s < s' → 65536 + s * (s + 1) + a ≠ 65536 + s' * (s' + 1) + a' := by
    intro s s' a a' ha hs
    have h1 : (s + 1) * (s + 1 + 1) ≤ s' * (s' + 1) := Nat.mul_le_mul (by omega) (by omega)
    have h2 : (s + 1) * (s + 1 + 1) = s * (s + 1) + 2 * (s + 1) := by
      rw [show s + 1 + 1 = s + 2 from rfl, Nat.mul_comm (s + 1) (s + 2), Nat.add_mul]
    omega
  have hs : ν + i = ν' + i' := by
    rcases Nat.lt_trichotomy (ν + i) (ν' + i') with h1 | h1 | h1
    · exact absurd h (key _ _ _ _ (by omega) h1)
    · exact h1
    · exact absurd h.symm (key _ _ _ _ (by omega) h1)
  rw [hs] at h
  omega

section
variable {P : Program} {okA : Nat → Prop} {w0 : Base} {s : ASt} {m : Nat → Option Nat} {a : Act} {w : World}

theorem repA_ones {E : Env} {cs : List AVal} {vs : List Value} (h : RepA E cs vs) : ∀ v ∈ vs, v.oneCell' = true := repA_one h
theorem repA_of_L {E : Env} : ∀ {cs : List AVal} {vs : List Value}, RepL E cs vs → (∀ v ∈ vs, v.oneCell' = true) → RepA E cs vs
  | [], _, h, _ => h
  | c :: cs, _, ⟨v, r, e, hv, hl⟩, h1 => by
    subst e
    exact ⟨v, r, rfl, h1 v (by simp), hv, repA_of_L hl fun u hu => h1 u (by simp [hu])⟩
theorem xvl_length {sm s : ASt} : ∀ {xs : List AVal} {cs : List XT}, XVL sm s xs cs → xs.length = cs.length
  | [], [], _ => rfl
  | _ :: _, _ :: _, h => by simp [xvl_length h.2]
  | [], _ :: _, h => h.elim
  | _ :: _, [], h => h.elim

mutual
theorem xv_sound (S : Sim okA w0 s m a w) {ok : Nat → Prop} (hok : ∀ b, (envOf okA w0.new s.heap s.gen m w).ok b → ok b) {sm : ASt} (hsub : ∀ β blk, sm.heap β = some blk → s.heap β = some blk)
    (t0 : Bool) (hown : t0 = false → ∀ β blk b, sm.heap β = some blk → m β = some b → ok b) :
    ∀ (t : XT) (x : AVal) (v : Value), XV sm s x t → (t0 = true → xtree s x t = true) → RepV (envOf okA w0.new s.heap s.gen m w) x v → RepX (treeEnv w ok) t v ((xn s x t).filterMap m)
  | .v t, x, v, h, ht, hr => by
    have h' : snap 6 sm x = some t := by cases x <;> exact h
    have ht' : t0 = true → x.tree = true := fun e => by have := ht e; cases x <;> exact this
    have e : xn s x (.v t) = [] := by cases x <;> rfl
    obtain ⟨h1, h2⟩ := snap_sound S hok t0 hsub hown 6 x t v h' ht' hr
    rw [e]
    exact ⟨rfl, h2, h1⟩
  | .ol sz cells n, x, v, h, ht, hr => by
    cases x <;> simp only [XV] at h <;> try exact h.elim
    case nl =>
      obtain ⟨rfl, rfl⟩ := h
      obtain ⟨ad, rfl⟩ := hr
      exact ⟨by simp, ad, 0, rfl, Nat.le_refl _, Nat.zero_le _, .inl ⟨rfl, rfl⟩⟩
    case own β g off n' =>
      split at h
      case h_2 => exact h.elim
      rename_i blk hb
      obtain ⟨rfl, rfl, hsz, hlen, hxl⟩ := h
      obtain ⟨hβ, hg⟩ := blkOf_spec hb
      obtain ⟨_, _, hp⟩ := hr
      obtain ⟨ad, c, rfl, hn, hcm, hcc, hcz⟩ := hp _ _ (loc_of hβ hg)
      have hcl : cells.length = n' * sz := by rw [← xvl_length hxl, List.length_take]; omega
      have e : xn s (.own β g 0 n') (.ol sz cells n') = β :: xnL s (blk.cells.take (n' * sz)) cells := by simp only [xn, hb]
      have ht' : t0 = true → xtreeL s (blk.cells.take (n' * sz)) cells = true := fun e => by have := ht e; simpa only [xtree, hb] using this
      rw [e]
      refine ⟨hcl, ad, c, rfl, hn, hcm, ?_⟩
      by_cases h0 : c = 0
      · have hn0 : n' = 0 := by omega
        have hz : m β = none := hcz rfl h0
        subst hn0
        have hc0 : cells = [] := List.eq_nil_of_length_eq_zero (by simpa using hcl)
        subst hc0
        refine .inl ⟨h0, ?_⟩
        have : xnL s (List.take (0 * sz) blk.cells) [] = [] := by cases (List.take (0 * sz) blk.cells) <;> rfl
        rw [this, List.filterMap_cons, hz]
        rfl
      · obtain ⟨b, hm, rfl, arr', T', fz', hh', hroom⟩ := hcc.resolve_left h0
        obtain ⟨_, ⟨arr, T, hh, hla⟩, hC⟩ := (S.blks β blk hβ).real b hm
        have hh2 : w.heap[b]? = some (.cells arr' T' fz') := hh'
        rw [hh] at hh2
        simp only [Option.some.injEq, Obj.cells.injEq] at hh2
        obtain ⟨rfl, rfl, rfl⟩ := hh2
        obtain ⟨vs, hA, hcell⟩ := repC_vals (repC_take (n' * sz) hC)
        refine .inr ⟨h0, b, _, vs, rfl, by rw [List.filterMap_cons, hm], ⟨arr, T, hh, by omega, by rw [Nat.zero_add, hsz] at hroom; exact hroom⟩, xvl_sound S hok hsub t0 hown cells _ vs true hxl ht' (repA_L hA) (fun _ => repA_one hA), fun j v hj => ?_⟩
        have := hcell j v hj
        rwa [Nat.zero_add] at this
  | .op cells, x, v, h, ht, hr => by
    cases x <;> simp only [XV] at h <;> try exact h.elim
    case ptr β g off =>
      split at h
      case h_2 => exact h.elim
      rename_i blk hb
      obtain ⟨rfl, hxl⟩ := h
      obtain ⟨hβ, hg⟩ := blkOf_spec hb
      obtain ⟨_, _, hp⟩ := hr
      obtain ⟨b, hm, rfl⟩ := hp _ _ (loc_of hβ hg)
      have e : xn s (.ptr β g 0) (.op cells) = β :: xnL s blk.cells cells := by simp only [xn, hb]
      have ht' : t0 = true → xtreeL s blk.cells cells = true := fun e => by have := ht e; simpa only [xtree, hb] using this
      obtain ⟨_, ⟨arr, T, hh, hla⟩, hC⟩ := (S.blks β blk hβ).real b hm
      obtain ⟨vs, hA, hcell⟩ := repC_vals hC
      rw [e]
      refine ⟨b, _, vs, rfl, by rw [List.filterMap_cons, hm], ⟨arr, T, hh, by rw [← xvl_length hxl]; exact hla⟩, xvl_sound S hok hsub t0 hown cells _ vs true hxl ht' (repA_L hA) (fun _ => repA_one hA), fun j v hj => ?_⟩
      have := hcell j v hj
      rwa [Nat.zero_add] at this
  | .agg cs, x, v, h, ht, hr => by
    cases x <;> simp only [XV] at h <;> try exact h.elim
    case agg as =>
      obtain ⟨vs, rfl, hA⟩ := hr
      exact ⟨vs, rfl, xvl_sound S hok hsub t0 hown cs as vs true h ht (repA_L hA) (fun _ => repA_one hA)⟩
  | .tup cs, x, v, h, ht, hr => by
    cases x <;> simp only [XV] at h <;> try exact h.elim
    case tup as =>
      obtain ⟨vs, rfl, hA⟩ := hr
      exact ⟨vs, rfl, xvl_sound S hok hsub t0 hown cs as vs false h ht hA (fun e => by simp at e)⟩
theorem xvl_sound (S : Sim okA w0 s m a w) {ok : Nat → Prop} (hok : ∀ b, (envOf okA w0.new s.heap s.gen m w).ok b → ok b) {sm : ASt} (hsub : ∀ β blk, sm.heap β = some blk → s.heap β = some blk)
    (t0 : Bool) (hown : t0 = false → ∀ β blk b, sm.heap β = some blk → m β = some b → ok b) :
    ∀ (cs : List XT) (xs : List AVal) (vs : List Value) (one : Bool), XVL sm s xs cs → (t0 = true → xtreeL s xs cs = true) → RepL (envOf okA w0.new s.heap s.gen m w) xs vs → (one = true → ∀ v ∈ vs, v.oneCell' = true) →
      RepXL (treeEnv w ok) one cs vs ((xnL s xs cs).filterMap m)
  | [], xs, vs, one, h, _, hr, _ => by
    cases xs with
    | nil => exact ⟨hr, rfl⟩
    | cons _ _ => exact h.elim
  | c :: cs, xs, vs, one, h, ht, hr, h1 => by
    cases xs with
    | nil => exact h.elim
    | cons x xs =>
      obtain ⟨v, r, rfl, hv, hl⟩ := hr
      have ht' : t0 = true → xtree s x c = true ∧ xtreeL s xs cs = true := fun e => by simpa [xtreeL] using ht e
      refine ⟨v, r, _, _, rfl, ?_, fun e => h1 e v (by simp), xv_sound S hok hsub t0 hown c x v h.1 (fun e => (ht' e).1) hv, xvl_sound S hok hsub t0 hown cs xs r one h.2 (fun e => (ht' e).2) hl (fun e u hu => h1 e u (by simp [hu]))⟩
      show ((xn s x c) ++ (xnL s xs cs)).filterMap m = _
      rw [List.filterMap_append]
end

/-- a name, its block, and where it lies -/
abbrev Zs := List ((Nat × Blk) × Option Nat)
structure GoodZ (E' : Env) (z : (Nat × Blk) × Option Nat) : Prop where
  virt : z.2 = none → z.1.2.cells = []
  real : ∀ b, z.2 = some b → (∃ arr T, E'.w.heap[b]? = some (.cells arr T (0, 0)) ∧ z.1.2.cells.length ≤ arr.size) ∧ RepC E' z.1.2.cells b 0
theorem embL_length {G ν : Nat} : ∀ (cs : List XT) (i : Nat), (embL G ν i cs).1.length = cs.length
  | [], _ => rfl
  | c :: cs, i => by simp [embL, embL_length cs (i + 1)]
mutual
theorem emb_gens {G : Nat} : ∀ (t : XT) (ν : Nat), ∀ p ∈ (emb G ν t).2, p.2.gen = G
  | .v a, ν, p, h => by simp [emb] at h
  | .ol sz cells n, ν, p, h => by
    simp only [emb, List.mem_cons] at h
    rcases h with rfl | h
    · rfl
    · exact embL_gens cells ν 0 p h
  | .op cells, ν, p, h => by
    simp only [emb, List.mem_cons] at h
    rcases h with rfl | h
    · rfl
    · exact embL_gens cells ν 0 p h
  | .agg cs, ν, p, h => embL_gens cs ν 0 p h
  | .tup cs, ν, p, h => embL_gens cs ν 0 p h
theorem embL_gens {G : Nat} : ∀ (cs : List XT) (ν i : Nat), ∀ p ∈ (embL G ν i cs).2, p.2.gen = G
  | [], ν, i, p, h => by simp [embL] at h
  | c :: cs, ν, i, p, h => by
    simp only [embL, List.mem_append] at h
    rcases h with h | h
    · exact emb_gens c _ p h
    · exact embL_gens cs ν (i + 1) p h
end

theorem own_parts {E' : Env} {w' : World} (hw : E'.w = w') {cells : List XT} {as : List AVal} {vs : List Value} {b : Nat} (hl : as.length = cells.length)
    (hh : ∃ arr T, w'.heap[b]? = some (.cells arr T (0, 0)) ∧ cells.length ≤ arr.size) (hr : RepL E' as vs) (h1 : ∀ v ∈ vs, v.oneCell' = true) (hc : ∀ (j : Nat) (v : Value), vs[j]? = some v → w'.cell? ⟨b, j, none⟩ = some v) :
    (∃ arr T, E'.w.heap[b]? = some (.cells arr T (0, 0)) ∧ as.length ≤ arr.size) ∧ RepC E' as b 0 := by
  obtain ⟨arr, T, q1, q2⟩ := hh
  refine ⟨⟨arr, T, by rw [hw]; exact q1, by omega⟩, repC_of (repA_of_L hr h1) fun j v hj => ?_⟩
  rw [hw, Nat.zero_add]
  exact hc j v hj

mutual
theorem emb_sound {w' : World} {ok' : Nat → Prop} {G : Nat} : ∀ (t : XT) (ν : Nat) (v : Value) (S : List Nat), RepX (treeEnv w' ok') t v S → ∃ Z : Zs, Z.map (·.1) = (emb G ν t).2 ∧ Z.filterMap (·.2) = S ∧
    ∀ E' : Env, E'.w = w' → (∀ b, ok' b → E'.ok b) → G < E'.gen → (∀ z ∈ Z, E'.loc z.1.1 G = some (z.2, z.1.2.size)) → RepV E' (emb G ν t).1 v ∧ ∀ z ∈ Z, GoodZ E' z
  | .v a, ν, v, S, ⟨hS, ht, hr⟩ => by
    refine ⟨[], rfl, hS.symm, fun E' hw hok hg hloc => ⟨?_, by simp⟩⟩
    exact repV_tree (E := treeEnv w' ok') (fun b hb => ⟨hok b hb, by rw [hw]; rfl⟩) a v ht hr
  | .ol sz cells n, ν, v, S, ⟨hcl, ad, c, hv, hn, hcm, hcc⟩ => by
    subst hv
    rcases hcc with ⟨hc0, rfl⟩ | ⟨hc0, b, S', vs, rfl, rfl, hh, hL, hcell⟩
    · have hn0 : n = 0 := by omega
      subst hn0
      have : cells = [] := List.eq_nil_of_length_eq_zero (by simpa using hcl)
      subst this
      refine ⟨[((ν, ⟨G, sz, []⟩), none)], rfl, rfl, fun E' hw hok hg hloc => ⟨⟨hg, rfl, fun r sz' e => ⟨ad, c, rfl, hn, hcm, .inl hc0, fun _ _ => ?_⟩⟩, ?_⟩⟩
      · have := hloc _ (List.mem_singleton.2 rfl)
        rw [this] at e
        simp only [Option.some.injEq, Prod.mk.injEq] at e
        exact e.1.symm
      · intro z hz
        rw [List.mem_singleton.1 hz]
        exact ⟨fun _ => rfl, fun b hb => by simp at hb⟩
    · obtain ⟨Z, h1, h2, h3⟩ := embL_sound (G := G) cells ν 0 true vs S' hL
      refine ⟨((ν, ⟨G, sz, (embL G ν 0 cells).1⟩), some b) :: Z, by simp [emb, h1], by simp [h2], fun E' hw hok hg hloc => ?_⟩
      obtain ⟨q1, q2, q3⟩ := h3 E' hw hok hg fun z hz => hloc z (by simp [hz])
      obtain ⟨arr, T, hh1, hh2, hh3⟩ := hh
      refine ⟨⟨hg, rfl, fun r sz' e => ⟨_, c, rfl, hn, hcm, .inr ⟨b, ?_, rfl, arr, T, (0, 0), by rw [hw]; exact hh1, ?_⟩, fun _ e => (hc0 e).elim⟩⟩, ?_⟩
      · have := hloc _ (List.mem_cons_self ..)
        rw [this] at e
        simp only [Option.some.injEq, Prod.mk.injEq] at e
        exact e.1.symm
      · have := hloc _ (List.mem_cons_self ..)
        rw [this] at e
        simp only [Option.some.injEq, Prod.mk.injEq] at e
        rw [Nat.zero_add, ← e.2]
        exact hh3
      · intro z hz
        rcases List.mem_cons.1 hz with rfl | hz
        · refine ⟨fun e => by simp at e, fun b' hb' => ?_⟩
          simp only [Option.some.injEq] at hb'
          subst hb'
          exact own_parts hw (embL_length cells 0) ⟨arr, T, hh1, hh2⟩ q1 (q2 rfl) hcell
        · exact q3 z hz
  | .op cells, ν, v, S, ⟨b, S', vs, hv, hS, hh, hL, hcell⟩ => by
    subst hv hS
    obtain ⟨Z, h1, h2, h3⟩ := embL_sound (G := G) cells ν 0 true vs S' hL
    refine ⟨((ν, ⟨G, cells.length, (embL G ν 0 cells).1⟩), some b) :: Z, by simp [emb, h1], by simp [h2], fun E' hw hok hg hloc => ?_⟩
    obtain ⟨q1, q2, q3⟩ := h3 E' hw hok hg fun z hz => hloc z (by simp [hz])
    refine ⟨⟨hg, rfl, fun r sz' e => ⟨b, ?_, rfl⟩⟩, ?_⟩
    · have := hloc _ (List.mem_cons_self ..)
      rw [this] at e
      simp only [Option.some.injEq, Prod.mk.injEq] at e
      exact e.1.symm
    · intro z hz
      rcases List.mem_cons.1 hz with rfl | hz
      · refine ⟨fun e => by simp at e, fun b' hb' => ?_⟩
        simp only [Option.some.injEq] at hb'
        subst hb'
        exact own_parts hw (embL_length cells 0) hh q1 (q2 rfl) hcell
      · exact q3 z hz
  | .agg cs, ν, v, S, ⟨vs, hv, hL⟩ => by
    subst hv
    obtain ⟨Z, h1, h2, h3⟩ := embL_sound (G := G) cs ν 0 true vs S hL
    refine ⟨Z, h1, h2, fun E' hw hok hg hloc => ?_⟩
    obtain ⟨q1, q2, q3⟩ := h3 E' hw hok hg hloc
    exact ⟨⟨vs, rfl, repA_of_L q1 (q2 rfl)⟩, q3⟩
  | .tup cs, ν, v, S, ⟨vs, hv, hL⟩ => by
    subst hv
    obtain ⟨Z, h1, h2, h3⟩ := embL_sound (G := G) cs ν 0 false vs S hL
    refine ⟨Z, h1, h2, fun E' hw hok hg hloc => ?_⟩
    obtain ⟨q1, q2, q3⟩ := h3 E' hw hok hg hloc
    exact ⟨⟨vs, rfl, q1⟩, q3⟩
theorem embL_sound {w' : World} {ok' : Nat → Prop} {G : Nat} : ∀ (cs : List XT) (ν i : Nat) (one : Bool) (vs : List Value) (S : List Nat), RepXL (treeEnv w' ok') one cs vs S → ∃ Z : Zs, Z.map (·.1) = (embL G ν i cs).2 ∧ Z.filterMap (·.2) = S ∧
    ∀ E' : Env, E'.w = w' → (∀ b, ok' b → E'.ok b) → G < E'.gen → (∀ z ∈ Z, E'.loc z.1.1 G = some (z.2, z.1.2.size)) → RepL E' (embL G ν i cs).1 vs ∧ (one = true → ∀ v ∈ vs, v.oneCell' = true) ∧ ∀ z ∈ Z, GoodZ E' z
  | [], ν, i, one, vs, S, ⟨hv, hS⟩ => ⟨[], rfl, hS.symm, fun E' _ _ _ _ => ⟨hv, fun _ v h => by simp [hv] at h, by simp⟩⟩
  | c :: cs, ν, i, one, vs, S, ⟨v, r, S1, S2, hvs, hS, h1, hc, hL⟩ => by
    subst hvs hS
    obtain ⟨Z1, a1, a2, a3⟩ := emb_sound (G := G) c (ch ν i) v S1 hc
    obtain ⟨Z2, b1, b2, b3⟩ := embL_sound (G := G) cs ν (i + 1) one r S2 hL
    refine ⟨Z1 ++ Z2, by simp [embL, a1, b1], by simp [a2, b2], fun E' hw hok hg hloc => ?_⟩
    obtain ⟨p1, p2⟩ := a3 E' hw hok hg fun z hz => hloc z (by simp [hz])
    obtain ⟨q1, q2, q3⟩ := b3 E' hw hok hg fun z hz => hloc z (by simp [hz])
    refine ⟨⟨v, r, rfl, p1, q1⟩, fun e u hu => ?_, fun z hz => ?_⟩
    · rcases List.mem_cons.1 hu with rfl | hu
      · exact h1 e
      · exact q2 e u hu
    · rcases List.mem_append.1 hz with hz | hz
      · exact p2 z hz
      · exact q3 z hz
end
end

def lookupZ : Zs → Nat → Option (Option Nat)
  | [], _ => none
  | z :: r, t => if t = z.1.1 then some z.2 else lookupZ r t
theorem lookupU_none {U : List (Nat × Blk)} {β : Nat} (h : lookupU U β = none) : β ∉ U.map (·.1) := by
  induction U with
  | nil => simp
  | cons p U ih =>
    obtain ⟨k, v⟩ := p
    simp only [lookupU] at h
    split at h
    · simp at h
    · rename_i hne
      simp only [List.map_cons, List.mem_cons, not_or]
      exact ⟨hne, ih h⟩
theorem lookupZ_none {Z : Zs} {β : Nat} (h : lookupU (Z.map (·.1)) β = none) : lookupZ Z β = none := by
  induction Z with
  | nil => rfl
  | cons z Z ih =>
    simp only [List.map_cons, lookupU] at h
    split at h
    · simp at h
    · rename_i hne
      simp only [lookupZ, hne, if_false]
      exact ih h
theorem lookup_mem {Z : Zs} {β : Nat} {blk : Blk} (h : lookupU (Z.map (·.1)) β = some blk) : ∃ z ∈ Z, z.1 = (β, blk) ∧ lookupZ Z β = some z.2 := by
  induction Z with
  | nil => simp [lookupU] at h
  | cons z Z ih =>
    simp only [List.map_cons, lookupU] at h
    split at h
    · rename_i e
      simp only [Option.some.injEq] at h
      exact ⟨z, by simp, by rw [← h, e], by simp [lookupZ, e]⟩
    · rename_i hne
      obtain ⟨z', h1, h2, h3⟩ := ih h
      exact ⟨z', by simp [h1], h2, by simp [lookupZ, hne, h3]⟩
theorem lookup_of_mem {Z : Zs} (hn : (Z.map (·.1.1)).Nodup) : ∀ z ∈ Z, lookupU (Z.map (·.1)) z.1.1 = some z.1.2 ∧ lookupZ Z z.1.1 = some z.2 := by
  induction Z with
  | nil => simp
  | cons y Z ih =>
    simp only [List.map_cons, List.nodup_cons] at hn
    intro z hz
    rcases List.mem_cons.1 hz with rfl | hz
    · simp [lookupU, lookupZ]
    · have hne : ¬ z.1.1 = y.1.1 := fun e => hn.1 (e ▸ List.mem_map.2 ⟨z, hz, rfl⟩)
      simp only [List.map_cons, lookupU, lookupZ, hne, if_false]
      exact ih hn.2 z hz
theorem real_inj : ∀ {Z : Zs}, (Z.filterMap (·.2)).Nodup → ∀ {b : Nat}, ∀ z ∈ Z, ∀ z' ∈ Z, z.2 = some b → z'.2 = some b → z = z'
  | [], _, _, z, hz, _, _, _, _ => by simp at hz
  | y :: Z, hn, b, z, hz, z', hz', e, e' => by
    have hcase : ∀ x ∈ Z, x.2 = some b → y.2 = some b → False := fun x hx ex ey => by
      rw [List.filterMap_cons, ey] at hn
      exact (List.nodup_cons.1 hn).1 (List.mem_filterMap.2 ⟨x, hx, ex⟩)
    have htail : (Z.filterMap (·.2)).Nodup := by
      rw [List.filterMap_cons] at hn
      split at hn
      · exact hn
      · exact (List.nodup_cons.1 hn).2
    rcases List.mem_cons.1 hz with h1 | h1
    · rcases List.mem_cons.1 hz' with h2 | h2
      · rw [h1, h2]
      · exact (hcase z' h2 e' (h1 ▸ e)).elim
    · rcases List.mem_cons.1 hz' with h2 | h2
      · exact (hcase z h1 e (h2 ▸ e')).elim
      · exact real_inj htail z h1 z' h2 e e'
theorem nodup_real {m : Nat → Option Nat} {N : List Nat} (hn : N.Nodup) (hinj : ∀ β ∈ N, ∀ β' ∈ N, ∀ b, m β = some b → m β' = some b → β = β') : (N.filterMap m).Nodup := by
  induction N with
  | nil => simp
  | cons x N ih =>
    have h1 := List.nodup_cons.1 hn
    have ih' := ih h1.2 fun β hβ β' hβ' => hinj β (by simp [hβ]) β' (by simp [hβ'])
    rw [List.filterMap_cons]
    split
    · exact ih'
    · rename_i b hb
      refine List.nodup_cons.2 ⟨fun hmem => ?_, ih'⟩
      obtain ⟨y, hy, hyb⟩ := List.mem_filterMap.1 hmem
      exact h1.1 (hinj x (by simp) y (by simp [hy]) b hb hyb ▸ hy)

section
variable {P : Program} {okA : Nat → Prop} {w0 : Base} {s : ASt} {m : Nat → Option Nat} {a : Act} {w : World}

mutual
theorem xn_heap (s : ASt) : ∀ (t : XT) (x : AVal), ∀ β ∈ xn s x t, ∃ blk, s.heap β = some blk
  | .v t, x, β, h => by
    have e : xn s x (.v t) = [] := by cases x <;> rfl
    rw [e] at h; simp at h
  | .ol sz cells n, x, β, h => by
    cases x <;> simp only [xn] at h <;> try (simp at h; done)
    split at h
    case h_2 => simp at h
    rename_i blk hb
    rcases List.mem_cons.1 h with rfl | h
    · exact ⟨blk, (blkOf_spec hb).1⟩
    · exact xnL_heap s cells _ β h
  | .op cells, x, β, h => by
    cases x <;> simp only [xn] at h <;> try (simp at h; done)
    split at h
    case h_2 => simp at h
    rename_i blk hb
    rcases List.mem_cons.1 h with rfl | h
    · exact ⟨blk, (blkOf_spec hb).1⟩
    · exact xnL_heap s cells _ β h
  | .agg cs, x, β, h => by
    cases x <;> simp only [xn] at h <;> try (simp at h; done)
    exact xnL_heap s cs _ β h
  | .tup cs, x, β, h => by
    cases x <;> simp only [xn] at h <;> try (simp at h; done)
    exact xnL_heap s cs _ β h
theorem xnL_heap (s : ASt) : ∀ (cs : List XT) (xs : List AVal), ∀ β ∈ xnL s xs cs, ∃ blk, s.heap β = some blk
  | [], xs, β, h => by cases xs <;> simp [xnL] at h
  | c :: cs, [], β, h => by simp [xnL] at h
  | c :: cs, x :: xs, β, h => by
    simp only [xnL, List.mem_append] at h
    rcases h with h | h
    · exact xn_heap s c x β h
    · exact xnL_heap s cs xs β h
end
mutual
theorem xflat_any {E E' : Env} (hw : E'.w = E.w) : ∀ (t : XT) (v : Value) (S : List Nat), xflat t = true → RepX E t v S → RepX E' t v S
  | .v a, v, S, hf, ⟨h1, h2, h3⟩ => ⟨h1, h2, flatT_rep (by simpa [xflat] using hf) h3⟩
  | .ol sz cells n, v, S, hf, ⟨h1, a, c, h2, h3, h4, h5⟩ => ⟨h1, a, c, h2, h3, h4, h5.imp id fun ⟨q1, b, S', vs, q2, q3, q4, q5, q6⟩ => ⟨q1, b, S', vs, q2, q3, by rw [hw]; exact q4, xflatL_any hw cells vs S' true (by simpa [xflat] using hf) q5, by rw [hw]; exact q6⟩⟩
  | .op cells, v, S, hf, ⟨b, S', vs, q2, q3, q4, q5, q6⟩ => ⟨b, S', vs, q2, q3, by rw [hw]; exact q4, xflatL_any hw cells vs S' true (by simpa [xflat] using hf) q5, by rw [hw]; exact q6⟩
  | .agg cs, v, S, hf, ⟨vs, e, h⟩ => ⟨vs, e, xflatL_any hw cs vs S true (by simpa [xflat] using hf) h⟩
  | .tup cs, v, S, hf, ⟨vs, e, h⟩ => ⟨vs, e, xflatL_any hw cs vs S false (by simpa [xflat] using hf) h⟩
theorem xflatL_any {E E' : Env} (hw : E'.w = E.w) : ∀ (cs : List XT) (vs : List Value) (S : List Nat) (one : Bool), xflatL cs = true → RepXL E one cs vs S → RepXL E' one cs vs S
  | [], vs, S, one, _, h => h
  | c :: cs, vs, S, one, hf, ⟨v, r, S1, S2, q1, q2, q3, q4, q5⟩ => by
    simp only [xflatL, Bool.and_eq_true] at hf
    exact ⟨v, r, S1, S2, q1, q2, q3, xflat_any hw c v S1 hf.1 q4, xflatL_any hw cs r S2 one hf.2 q5⟩
end

mutual
/-- as 'RepX', but what is shared beside the memory handed over is not looked at -/
def RepU (E : Env) : XT → Value → List Nat → Prop
  | .v _, _, S => S = []
  | .ol sz cells n, v, S => RepX E (.ol sz cells n) v S
  | .op cells, v, S => RepX E (.op cells) v S
  | .agg cs, v, S => ∃ vs : List Value, v = .agg vs.toArray ∧ RepUL E cs vs S
  | .tup cs, v, S => RepX E (.tup cs) v S
def RepUL (E : Env) : List XT → List Value → List Nat → Prop
  | [], vs, S => vs = [] ∧ S = []
  | c :: cs, vs, S => ∃ v r S1 S2, vs = v :: r ∧ S = S1 ++ S2 ∧ RepU E c v S1 ∧ RepUL E cs r S2
end
mutual
theorem repU_of {E : Env} : ∀ (t : XT) (v : Value) (S : List Nat), RepX E t v S → RepU E t v S
  | .v _, _, _, ⟨h, _, _⟩ => h
  | .ol _ _ _, _, _, h => h
  | .op _, _, _, h => h
  | .agg cs, _, S, ⟨vs, e, h⟩ => ⟨vs, e, repUL_of cs vs S true h⟩
  | .tup _, _, _, h => h
theorem repUL_of {E : Env} : ∀ (cs : List XT) (vs : List Value) (S : List Nat) (one : Bool), RepXL E one cs vs S → RepUL E cs vs S
  | [], _, _, _, h => h
  | c :: cs, _, _, one, ⟨v, r, S1, S2, q1, q2, _, q4, q5⟩ => ⟨v, r, S1, S2, q1, q2, repU_of c v S1 q4, repUL_of cs r S2 one q5⟩
end
mutual
theorem xsafe_any {E E' : Env} (hw : E'.w = E.w) : ∀ (t : XT) (v : Value) (S : List Nat), xsafe t = true → RepU E t v S → RepU E' t v S
  | .v _, _, _, _, h => h
  | .ol sz cells n, v, S, hf, h => xflat_any hw (.ol sz cells n) v S (by simpa [xsafe, xflat] using hf) h
  | .op cells, v, S, hf, h => xflat_any hw (.op cells) v S (by simpa [xsafe, xflat] using hf) h
  | .agg cs, v, S, hf, ⟨vs, e, h⟩ => ⟨vs, e, xsafeL_any hw cs vs S (by simpa [xsafe] using hf) h⟩
  | .tup cs, v, S, hf, h => xflat_any hw (.tup cs) v S (by simpa [xsafe, xflat] using hf) h
theorem xsafeL_any {E E' : Env} (hw : E'.w = E.w) : ∀ (cs : List XT) (vs : List Value) (S : List Nat), xsafeL cs = true → RepUL E cs vs S → RepUL E' cs vs S
  | [], _, _, _, h => h
  | c :: cs, vs, S, hf, ⟨v, r, S1, S2, q1, q2, q4, q5⟩ => by
    simp only [xsafeL, Bool.and_eq_true] at hf
    exact ⟨v, r, S1, S2, q1, q2, xsafe_any hw c v S1 hf.1 q4, xsafeL_any hw cs r S2 hf.2 q5⟩
end

/-- kept, or new -/
def KeptZ (s : ASt) (m : Nat → Option Nat) (G : Nat) (z : (Nat × Blk) × Option Nat) : Prop :=
  z.1.2.gen = G ∨ ∃ blk, s.heap z.1.1 = some blk ∧ blk.gen = z.1.2.gen ∧ blk.size = z.1.2.size ∧ z.2 = m z.1.1
mutual
theorem xupd_sound (S : Sim okA w0 s m a w) {w' : World} {ok' : Nat → Prop} : ∀ (t : XT) (x : AVal) (v : Value) (T : List Nat), xkeep s x t → RepV (envOf okA w0.new s.heap s.gen m w) x v → RepU (treeEnv w' ok') t v T →
    ∃ Z : Zs, Z.map (·.1) = xupd s.gen x t ∧ Z.filterMap (·.2) = T ∧ (∀ z ∈ Z, KeptZ s m s.gen z) ∧
      ∀ E' : Env, E'.w = w' → (∀ b, ok' b → E'.ok b) → s.gen < E'.gen → (∀ z ∈ Z, E'.loc z.1.1 z.1.2.gen = some (z.2, z.1.2.size)) → ∀ z ∈ Z, GoodZ E' z
  | .v t, x, v, T, _, _, hT => ⟨[], by cases x <;> rfl, hT.symm, by simp, fun E' _ _ _ _ => by simp⟩
  | .ol sz cells n, x, v, T, hk, hr, ⟨hcl, ad, c, hv, hn, hcm, hcc⟩ => by
    cases x <;> simp only [xkeep] at hk <;> try exact hk.elim
    case nl =>
      obtain ⟨ad', hv'⟩ := hr
      rw [hv'] at hv
      simp only [Value.slice.injEq] at hv
      rcases hcc with ⟨_, rfl⟩ | ⟨h0, _⟩
      · exact ⟨[], rfl, rfl, by simp, fun E' _ _ _ _ => by simp⟩
      · exact (h0 hv.2.2.symm).elim
    case own β g off n' =>
      split at hk
      case h_2 => exact hk.elim
      rename_i blk hb
      obtain ⟨rfl, rfl, hsz⟩ := hk
      obtain ⟨hβ, hg⟩ := blkOf_spec hb
      obtain ⟨_, _, hp⟩ := hr
      obtain ⟨ad', c', hv', _, _, hcc', hcz'⟩ := hp _ _ (loc_of hβ hg)
      rw [hv'] at hv
      simp only [Value.slice.injEq] at hv
      obtain ⟨rfl, _, rfl⟩ := hv
      rcases hcc with ⟨hc0, rfl⟩ | ⟨hc0, b, S', vs, had, rfl, hh, hL, hcell⟩
      · have hn0 : n = 0 := by omega
        subst hn0
        have : cells = [] := List.eq_nil_of_length_eq_zero (by simpa using hcl)
        subst this
        refine ⟨[((β, ⟨g, sz, []⟩), none)], rfl, rfl, ?_, fun E' hw hok hg hloc => ?_⟩
        · intro z hz
          rw [List.mem_singleton.1 hz]
          exact .inr ⟨blk, hβ, hg, hsz, (hcz' rfl hc0).symm⟩
        · intro z hz
          rw [List.mem_singleton.1 hz]
          exact ⟨fun _ => rfl, fun b hb => by simp at hb⟩
      · obtain ⟨b2, hm, had2, _⟩ := hcc'.resolve_left hc0
        have hbb : b = b2 := by
          rw [had] at had2
          simpa using had2
        subst hbb
        obtain ⟨Z, h1, h2, h3⟩ := embL_sound (G := s.gen) cells β 0 true vs S' hL
        refine ⟨((β, ⟨g, sz, (embL s.gen β 0 cells).1⟩), some b) :: Z, by simp [xupd, h1], by simp [h2], ?_, fun E' hw hok hg hloc => ?_⟩
        · intro z hz
          rcases List.mem_cons.1 hz with rfl | hz
          · exact .inr ⟨blk, hβ, hg, hsz, hm.symm⟩
          · exact .inl (embL_gens cells β 0 _ (by rw [← h1]; exact List.mem_map.2 ⟨z, hz, rfl⟩))
        · obtain ⟨q1, q2, q3⟩ := h3 E' hw hok hg fun z hz => by
            have := hloc z (by simp [hz])
            rwa [embL_gens cells β 0 _ (by rw [← h1]; exact List.mem_map.2 ⟨z, hz, rfl⟩)] at this
          obtain ⟨arr, T, hh1, hh2, hh3⟩ := hh
          intro z hz
          rcases List.mem_cons.1 hz with rfl | hz
          · refine ⟨fun e => by simp at e, fun b' hb' => ?_⟩
            simp only [Option.some.injEq] at hb'
            subst hb'
            exact own_parts hw (embL_length cells 0) ⟨arr, T, hh1, hh2⟩ q1 (q2 rfl) hcell
          · exact q3 z hz
  | .op cells, x, v, T, hk, hr, ⟨b, S', vs, hv, hS, hh, hL, hcell⟩ => by
    cases x <;> simp only [xkeep] at hk <;> try exact hk.elim
    case ptr β g off =>
      split at hk
      case h_2 => exact hk.elim
      rename_i blk hb
      obtain ⟨rfl, hsz⟩ := hk
      obtain ⟨hβ, hg⟩ := blkOf_spec hb
      obtain ⟨_, _, hp⟩ := hr
      obtain ⟨b2, hm, hv'⟩ := hp _ _ (loc_of hβ hg)
      rw [hv'] at hv
      simp only [Value.pointer.injEq, Option.some.injEq, Addr.mk.injEq] at hv
      have hbb := hv.1
      subst hbb
      subst hS
      obtain ⟨Z, h1, h2, h3⟩ := embL_sound (G := s.gen) cells β 0 true vs S' hL
      refine ⟨((β, ⟨g, cells.length, (embL s.gen β 0 cells).1⟩), some b2) :: Z, by simp [xupd, h1], by simp [h2], ?_, fun E' hw hok hg hloc => ?_⟩
      · intro z hz
        rcases List.mem_cons.1 hz with rfl | hz
        · exact .inr ⟨blk, hβ, hg, hsz, hm.symm⟩
        · exact .inl (embL_gens cells β 0 _ (by rw [← h1]; exact List.mem_map.2 ⟨z, hz, rfl⟩))
      · obtain ⟨q1, q2, q3⟩ := h3 E' hw hok hg fun z hz => by
          have := hloc z (by simp [hz])
          rwa [embL_gens cells β 0 _ (by rw [← h1]; exact List.mem_map.2 ⟨z, hz, rfl⟩)] at this
        intro z hz
        rcases List.mem_cons.1 hz with rfl | hz
        · refine ⟨fun e => by simp at e, fun b' hb' => ?_⟩
          simp only [Option.some.injEq] at hb'
          subst hb'
          exact own_parts hw (embL_length cells 0) hh q1 (q2 rfl) hcell
        · exact q3 z hz
  | .agg cs, x, v, T, hk, hr, ⟨vs, hv, hL⟩ => by
    cases x <;> simp only [xkeep] at hk <;> try exact hk.elim
    case agg as =>
      obtain ⟨us, hu, hA⟩ := hr
      rw [hu] at hv
      have huv : us = vs := by simpa using hv
      subst huv
      exact xupdL_sound S cs as us T hk (repA_L hA) hL
  | .tup cs, x, v, T, hk, hr, _ => by
    cases x <;> simp only [xkeep] at hk
theorem xupdL_sound (S : Sim okA w0 s m a w) {w' : World} {ok' : Nat → Prop} : ∀ (cs : List XT) (xs : List AVal) (vs : List Value) (T : List Nat), xkeepL s xs cs → RepL (envOf okA w0.new s.heap s.gen m w) xs vs → RepUL (treeEnv w' ok') cs vs T →
    ∃ Z : Zs, Z.map (·.1) = xupdL s.gen xs cs ∧ Z.filterMap (·.2) = T ∧ (∀ z ∈ Z, KeptZ s m s.gen z) ∧
      ∀ E' : Env, E'.w = w' → (∀ b, ok' b → E'.ok b) → s.gen < E'.gen → (∀ z ∈ Z, E'.loc z.1.1 z.1.2.gen = some (z.2, z.1.2.size)) → ∀ z ∈ Z, GoodZ E' z
  | [], xs, vs, T, hk, _, ⟨_, hT⟩ => ⟨[], by cases xs <;> rfl, hT.symm, by simp, fun E' _ _ _ _ => by simp⟩
  | c :: cs, [], vs, T, hk, _, _ => hk.elim
  | c :: cs, x :: xs, vs, T, hk, ⟨v, r, e, hv, hl⟩, ⟨v', r', S1, S2, e', hT, hc, hL⟩ => by
    subst e
    simp only [List.cons.injEq] at e'
    obtain ⟨rfl, rfl⟩ := e'
    subst hT
    obtain ⟨Z1, a1, a2, a3, a4⟩ := xupd_sound S c x v S1 hk.1 hv hc
    obtain ⟨Z2, b1, b2, b3, b4⟩ := xupdL_sound S cs xs r S2 hk.2 hl hL
    refine ⟨Z1 ++ Z2, by simp [xupdL, a1, b1], by simp [a2, b2], fun z hz => ?_, fun E' hw hok hg hloc z hz => ?_⟩
    · rcases List.mem_append.1 hz with hz | hz
      · exact a3 z hz
      · exact b3 z hz
    · rcases List.mem_append.1 hz with hz | hz
      · exact a4 E' hw hok hg (fun z hz => hloc z (by simp [hz])) z hz
      · exact b4 E' hw hok hg (fun z hz => hloc z (by simp [hz])) z hz
end

theorem without_sub {s : ASt} {N : List Nat} : ∀ β blk, (s.without N).heap β = some blk → s.heap β = some blk ∧ β ∉ N := by
  intro β blk h
  simp only [ASt.without] at h
  split at h
  · simp at h
  · exact ⟨h, ‹_›⟩

theorem callY_sound (S : Sim okA w0 s m a w) {f : FuncId} {xs : List AVal} {ι : Type} {p : ι → Prop} {args : List XT} {args'' : ι → List XT} {t'' : ι → XT} {vs : List Value} {ν : Nat} (hr : RepL (envOf okA w0.new s.heap s.gen m w) xs vs) (hd : DenY P f args p args'' t'')
    (hx : XVL (s.without (xnL s xs args)) s xs args) (hN : (xnL s xs args).Nodup) (hk : ∀ i, p i → xkeepL s xs (args'' i)) (hf : xtreeL s xs args = true ∨ ∀ i, p i → (xsafeL (args'' i) = true ∧ xflat (t'' i) = true))
    (hU : ∀ i, p i → ((xupdL s.gen xs (args'' i) ++ (emb s.gen ν (t'' i)).2).map (·.1)).Nodup) :
    Calls P f vs.toArray w fun e w' => ∃ i, p i ∧ ∃ v m', e = .returned v ∧ RepV (envOf okA w0.new (s.after (xnL s xs args) (xupdL s.gen xs (args'' i) ++ (emb s.gen ν (t'' i)).2)).heap (s.gen + 1) m' w') (emb s.gen ν (t'' i)).1 v ∧
      Sim okA w0 (s.after (xnL s xs args) (xupdL s.gen xs (args'' i) ++ (emb s.gen ν (t'' i)).2)) m' a w' := by
  generalize hNe : xnL s xs args = N at *
  have hNh : ∀ β ∈ N, ∃ blk, s.heap β = some blk := fun β hβ => xnL_heap s args xs β (hNe ▸ hβ)
  have hS0 : ∀ b ∈ N.filterMap m, ∃ β ∈ N, m β = some b := fun b hb => by simpa using List.mem_filterMap.1 hb
  have hreal : ∀ b ∈ N.filterMap m, b < w.heap.size ∧ w0.new b := fun b hb => by
    obtain ⟨β, hβ, hm⟩ := hS0 b hb
    obtain ⟨blk, hblk⟩ := hNh β hβ
    obtain ⟨h1, ⟨arr, T, hh, _⟩, _⟩ := (S.blks β blk hblk).real b hm
    exact ⟨heap_lt hh, h1⟩
  have hapart : ∀ β blk b, s.heap β = some blk → β ∉ N → m β = some b → b ∉ N.filterMap m := fun β blk b hβ hn hm hb => by
    obtain ⟨β', hβ', hm'⟩ := hS0 b hb
    obtain ⟨blk', hblk'⟩ := hNh β' hβ'
    exact hn (S.inj β β' blk blk' b hβ hblk' hm hm' ▸ hβ')
  have hlt : ∀ β blk b, s.heap β = some blk → m β = some b → b < w.heap.size := fun β blk b hβ hm => by
    obtain ⟨_, ⟨arr, T, hh, _⟩, _⟩ := (S.blks β blk hβ).real b hm
    exact heap_lt hh
  have hnd0 : (N.filterMap m).Nodup := nodup_real hN fun β hβ β' hβ' b hm hm' => by
    obtain ⟨blk, hb⟩ := hNh β hβ
    obtain ⟨blk', hb'⟩ := hNh β' hβ'
    exact S.inj β β' blk blk' b hb hb' hm hm'
  obtain ⟨_, hden⟩ := hd
  -- the callee's sight of shared memory
  obtain ⟨ok, hok1, hok2, hglob, hrep⟩ : ∃ ok : Nat → Prop, (∀ b, ok b → b < w.heap.size ∧ b ∉ N.filterMap m) ∧ ((∀ b, ok b → (envOf okA w0.new s.heap s.gen m w).ok b) ∨ ∀ i, p i → (xsafeL (args'' i) = true ∧ xflat (t'' i) = true)) ∧
      Globs (treeEnv w ok) ∧ RepXL (treeEnv w ok) false args vs (N.filterMap m) := by
    have hin : ∀ b, (envOf okA w0.new s.heap s.gen m w).ok b → b < w.heap.size ∧ b ∉ N.filterMap m := fun b hb => ⟨hb.1, fun hmem => by
      obtain ⟨β, hβ, hm⟩ := hS0 b hmem
      obtain ⟨blk, hblk⟩ := hNh β hβ
      exact hb.2.2 β blk hblk hm⟩
    rcases hf with hf | hf
    · refine ⟨(envOf okA w0.new s.heap s.gen m w).ok, fun b hb => ⟨hb.1, fun hmem => ?_⟩, .inl fun b h => h, S.globs.tree fun b h => ⟨h, rfl⟩, ?_⟩
      · obtain ⟨β, hβ, hm⟩ := hS0 b hmem
        obtain ⟨blk, hblk⟩ := hNh β hβ
        exact hb.2.2 β blk hblk hm
      · have := xvl_sound S (ok := (envOf okA w0.new s.heap s.gen m w).ok) (fun b h => h) (sm := s.without N) (fun β blk h => (without_sub β blk h).1) true (fun h => by simp at h) args xs vs false hx (fun _ => hf) hr (fun h => by simp at h)
        rwa [hNe] at this
    · refine ⟨fun b => b < w.heap.size ∧ b ∉ N.filterMap m, fun b h => h, .inr hf, S.globs.tree fun b h => ⟨hin b h, rfl⟩, ?_⟩
      have := xvl_sound S (ok := fun b => b < w.heap.size ∧ b ∉ N.filterMap m) (fun b hb => ⟨hb.1, fun hmem => by
          obtain ⟨β, hβ, hm⟩ := hS0 b hmem
          obtain ⟨blk, hblk⟩ := hNh β hβ
          exact hb.2.2 β blk hblk hm⟩) (sm := s.without N) (fun β blk h => (without_sub β blk h).1) false
        (fun _ β blk b hβ hm => ⟨hlt β blk b (without_sub β blk hβ).1 hm, hapart β blk b (without_sub β blk hβ).1 (without_sub β blk hβ).2 hm⟩) args xs vs false hx (fun h => by simp at h) hr (fun h => by simp at h)
      rwa [hNe] at this
  refine (hden w vs ok (N.filterMap m) hok1 (fun b hb => (hreal b hb).1) hnd0 hglob hrep).mono ?_
  rintro e w' ⟨idx, hidx, v, S1, S2, rfl, ha', ht', hnd, hrange, hbel⟩
  refine ⟨idx, hidx, ?_⟩
  have hk := hk idx hidx
  have hU := hU idx hidx
  have hok2 : (∀ b, ok b → (envOf okA w0.new s.heap s.gen m w).ok b) ∨ (xsafeL (args'' idx) = true ∧ xflat (t'' idx) = true) := hok2.imp id fun h => h idx hidx
  generalize args'' idx = args' at *
  generalize t'' idx = t at *
  generalize hUe : xupdL s.gen xs args' ++ (emb s.gen ν t).2 = U at *
  -- shared memory behind the call
  obtain ⟨ok1, hoka, ha, ht⟩ : ∃ ok1 : Nat → Prop, (∀ b, ok1 b → b < w'.heap.size ∧ b ∉ S1 ++ S2 ∧ ((envOf okA w0.new s.heap s.gen m w).ok b ∨ b ∈ N.filterMap m ∨ w.heap.size ≤ b)) ∧ RepUL (treeEnv w' ok1) args' vs S1 ∧ RepX (treeEnv w' ok1) t v S2 := by
    rcases hok2 with h | h
    · exact ⟨_, fun b hb => ⟨hb.1, hb.2.1, hb.2.2.imp (h b) id⟩, repUL_of _ _ _ _ ha', ht'⟩
    · exact ⟨fun _ => False, fun b hb => hb.elim, xsafeL_any (by rfl) _ _ _ h.1 (repUL_of _ _ _ _ ha'), xflat_any (by rfl) _ _ _ h.2 ht'⟩
  obtain ⟨Z1, a1, a2, a3, a4⟩ := xupdL_sound S args' xs vs S1 hk hr ha
  obtain ⟨Z2, b1, b2, b3⟩ := emb_sound (G := s.gen) t ν v S2 ht
  have hZU : (Z1 ++ Z2).map (·.1) = U := by rw [List.map_append, a1, b1, hUe]
  have hZS : (Z1 ++ Z2).filterMap (·.2) = S1 ++ S2 := by rw [List.filterMap_append, a2, b2]
  have hZn : ((Z1 ++ Z2).map (·.1.1)).Nodup := by
    have : (Z1 ++ Z2).map (·.1.1) = U.map (·.1) := by rw [← hZU, List.map_map]; rfl
    rw [this]; exact hU
  have hZk : ∀ z ∈ Z1 ++ Z2, KeptZ s m s.gen z := fun z hz => by
    rcases List.mem_append.1 hz with hz | hz
    · exact a3 z hz
    · exact .inl (emb_gens t ν _ (by rw [← b1]; exact List.mem_map.2 ⟨z, hz, rfl⟩))
  have hgood : ∀ E' : Env, E'.w = w' → (∀ b, ok1 b → E'.ok b) → s.gen < E'.gen → (∀ z ∈ Z1 ++ Z2, E'.loc z.1.1 z.1.2.gen = some (z.2, z.1.2.size)) → RepV E' (emb s.gen ν t).1 v ∧ ∀ z ∈ Z1 ++ Z2, GoodZ E' z := fun E' q1 q2 q3 q4 => by
    obtain ⟨p1, p2⟩ := b3 E' q1 q2 q3 fun z hz => by
      have := q4 z (by simp [hz])
      rwa [emb_gens t ν _ (by rw [← b1]; exact List.mem_map.2 ⟨z, hz, rfl⟩)] at this
    refine ⟨p1, fun z hz => ?_⟩
    rcases List.mem_append.1 hz with hz | hz
    · exact a4 E' q1 q2 q3 (fun z hz => q4 z (by simp [hz])) z hz
    · exact p2 z hz
  clear a4 b3
  generalize Z1 ++ Z2 = Z at hZU hZS hZn hZk hgood
  subst hZU
  let m' : Nat → Option Nat := fun β => match lookupZ Z β with | some r => r | none => m β
  let h' : Nat → Option Blk := (s.after N (Z.map (·.1))).heap
  have old : ∀ β, lookupU (Z.map (·.1)) β = none → m' β = m β ∧ h' β = if β ∈ N then none else s.heap β := fun β hβ => by
    refine ⟨?_, ?_⟩
    · show (match lookupZ Z β with | some r => r | none => m β) = m β
      rw [lookupZ_none hβ]
    · show (match lookupU (Z.map (·.1)) β with | some blk => some blk | none => if β ∈ N then none else s.heap β) = _
      rw [hβ]
  have inZ : ∀ z ∈ Z, m' z.1.1 = z.2 ∧ h' z.1.1 = some z.1.2 := fun z hz => by
    obtain ⟨q1, q2⟩ := lookup_of_mem hZn z hz
    refine ⟨?_, ?_⟩
    · show (match lookupZ Z z.1.1 with | some r => r | none => m z.1.1) = z.2
      rw [q2]
    · show (match lookupU (Z.map (·.1)) z.1.1 with | some blk => some blk | none => if z.1.1 ∈ N then none else s.heap z.1.1) = _
      rw [q1]
  -- a name behind the call is one of the new ones, or one that was left alone
  have split' : ∀ β blk, h' β = some blk → (∃ z ∈ Z, z.1 = (β, blk) ∧ m' β = z.2) ∨ (lookupU (Z.map (·.1)) β = none ∧ s.heap β = some blk ∧ β ∉ N ∧ m' β = m β) := fun β blk hβ => by
    cases hl : lookupU (Z.map (·.1)) β with
    | some blk' =>
      obtain ⟨z, q1, q2, q3⟩ := lookup_mem hl
      have := inZ z q1
      rw [q2] at this
      rw [this.2] at hβ
      simp only [Option.some.injEq] at hβ
      exact .inl ⟨z, q1, by rw [q2, hβ], this.1⟩
    | none =>
      obtain ⟨q1, q2⟩ := old β hl
      rw [q2] at hβ
      split at hβ
      · simp at hβ
      · exact .inr ⟨rfl, hβ, ‹_›, q1⟩
  have hmemZ : ∀ z ∈ Z, ∀ b, z.2 = some b → b ∈ S1 ++ S2 := fun z hz b hb => by rw [← hZS]; exact List.mem_filterMap.2 ⟨z, hz, hb⟩
  have same : ∀ b, b < w.heap.size → b ∉ N.filterMap m → w'.heap[b]? = w.heap[b]? := fun b h1 h2 => hbel.block b h1 h2
  have hle : EnvLe (envOf okA w0.new s.heap s.gen m w) (envOf okA w0.new h' (s.gen + 1) m' w') := by
    refine ⟨fun b ⟨q1, q2, q3⟩ => ?_, Nat.le_succ _, fun β g r sz hg hl => ?_⟩
    · have hnb : b ∉ N.filterMap m := fun hb => by
        obtain ⟨β, hβ, hm⟩ := hS0 b hb
        obtain ⟨blk, hblk⟩ := hNh β hβ
        exact q3 β blk hblk hm
      refine ⟨⟨Nat.lt_of_lt_of_le q1 hbel.size, q2, fun β blk hβ hm => ?_⟩, same b q1 hnb⟩
      rcases split' β blk hβ with ⟨z, hz, _, e⟩ | ⟨_, hh, _, e⟩
      · have := (hrange b (hmemZ z hz b (e ▸ hm))).2
        rcases this with h | h
        · exact hnb h
        · have h : w.heap.size ≤ b := h
          have q1 : b < w.heap.size := q1
          omega
      · exact q3 β blk hh (e ▸ hm)
    · have room : ∀ b k, (envOf okA w0.new s.heap s.gen m w).room b k → (envOf okA w0.new h' (s.gen + 1) m' w').room b k := fun b k ⟨arr, T, fz, q1, q2⟩ => by
        by_cases hb : b ∈ N.filterMap m
        · obtain ⟨arr', T', fz', p1, p2⟩ := hbel.room b hb arr T fz q1
          exact ⟨arr', T', fz', p1, Nat.le_trans q2 p2⟩
        · exact ⟨arr, T, fz, (same b (heap_lt q1) hb).trans q1, q2⟩
      simp only [envOf] at hl hg
      split at hl
      case h_2 => simp at hl
      rename_i blk hblk
      split at hl
      case isFalse => simp at hl
      rename_i hgg
      refine ⟨?_, fun b k _ hr => room b k hr⟩
      rcases split' β blk hblk with ⟨z, hz, ez, e⟩ | ⟨_, hh, _, e⟩
      · rcases hZk z hz with hk | ⟨blk0, k1, k2, k3, k4⟩
        · rw [ez] at hk
          simp only at hk
          omega
        · rw [ez] at k1 k2 k3 k4
          simp only at k1 k2 k3 k4
          simp only [envOf, k1, k2, hgg, if_true, k3]
          rw [e, k4] at hl
          exact hl
      · simp only [envOf, hh, hgg, if_true]
        rw [e] at hl
        exact hl
  have hok1' : ∀ b, ok1 b → (envOf okA w0.new h' (s.gen + 1) m' w').ok b := fun b hb => by
    obtain ⟨q1, q2, q3⟩ := hoka b hb
    refine ⟨q1, ?_, fun β blk hβ hm => ?_⟩
    · rcases q3 with q3 | q3 | q3
      · exact q3.2.1
      · exact .inr (hreal b q3).2
      · exact .inr (.inl (Nat.le_trans S.below.size q3))
    · rcases split' β blk hβ with ⟨z, hz, _, e⟩ | ⟨_, hh, hn, e⟩
      · exact q2 (hmemZ z hz b (e ▸ hm))
      · rw [e] at hm
        rcases q3 with q3 | q3 | q3
        · exact q3.2.2 β blk hh hm
        · exact hapart β blk b hh hn hm q3
        · have := hlt β blk b hh hm
          omega
  obtain ⟨hv, hgz⟩ := hgood (envOf okA w0.new h' (s.gen + 1) m' w') rfl hok1' (Nat.lt_succ_self _) fun z hz => by
    obtain ⟨q1, q2⟩ := inZ z hz
    simp only [envOf, q2, q1, if_true]
  refine ⟨v, m', rfl, hv, ?_⟩
  refine ⟨S.size, S.defers, fun t => repV_mono hle _ _ (S.tmps t), fun p hp => repV_mono hle _ _ (S.pins p hp), fun β blk hβ => ?_, fun β β' blk blk' b hβ hβ' hm hm' => ?_, ?_, S.okA, S.K⟩
  · rcases split' β blk hβ with ⟨z, hz, ez, e⟩ | ⟨_, hh, hn, e⟩
    · obtain ⟨g1, g2⟩ := hgz z hz
      refine ⟨?_, fun h => ?_, fun b hb => ?_⟩
      · rcases hZk z hz with hk | ⟨blk0, k1, k2, k3, k4⟩
        · rw [ez] at hk
          show blk.gen < s.gen + 1
          simp only at hk
          omega
        · rw [ez] at k1 k2
          simp only at k1 k2
          have := (S.blks β blk0 k1).gen
          show blk.gen < s.gen + 1
          omega
      · have := g1 (by rw [← e]; exact h)
        rwa [ez] at this
      · rw [e] at hb
        have hr2 := hrange b (hmemZ z hz b hb)
        obtain ⟨p1, p2⟩ := g2 b hb
        rw [ez] at p1 p2
        refine ⟨?_, p1, p2⟩
        rcases hr2.2 with h | h
        · exact (hreal b h).2
        · exact .inl (Nat.le_trans S.below.size h)
    · exact (S.blks β blk hh).mono (Nat.le_succ _) e hle fun b hm => same b (hlt β blk b hh hm) (hapart β blk b hh hn hm)
  · rcases split' β blk hβ with ⟨z, hz, ez, e⟩ | ⟨_, hh, hn, e⟩ <;> rcases split' β' blk' hβ' with ⟨z', hz', ez', e'⟩ | ⟨_, hh', hn', e'⟩
    · have := real_inj (by rw [hZS]; exact hnd) z hz z' hz' (e ▸ hm) (e' ▸ hm')
      have e1 : z.1.1 = β := by rw [ez]
      have e2 : z'.1.1 = β' := by rw [ez']
      rw [← e1, ← e2, this]
    · exfalso
      rw [e'] at hm'
      rcases (hrange b (hmemZ z hz b (e ▸ hm))).2 with h | h
      · exact hapart β' blk' b hh' hn' hm' h
      · have := hlt β' blk' b hh' hm'
        omega
    · exfalso
      rw [e] at hm
      rcases (hrange b (hmemZ z' hz' b (e' ▸ hm'))).2 with h | h
      · exact hapart β blk b hh hn hm h
      · have := hlt β blk b hh hm
        omega
    · rw [e] at hm
      rw [e'] at hm'
      exact S.inj β β' blk blk' b hh hh' hm hm'
  · refine S.below.change hbel.os hbel.tape hbel.output hbel.size (fun k hk hn => same k hk fun hmem => hn (hreal k hmem).2) fun k arr T fz _ e => ?_
    by_cases hb : k ∈ N.filterMap m
    · exact hbel.room k hb arr T fz e
    · exact ⟨arr, T, fz, (same k (heap_lt e) hb).trans e, Nat.le_refl _⟩
theorem callX_sound (S : Sim okA w0 s m a w) {f : FuncId} {xs : List AVal} {args args' : List XT} {t : XT} {vs : List Value} {ν : Nat} (hr : RepL (envOf okA w0.new s.heap s.gen m w) xs vs) (hd : DenX P f args args' t)
    (hx : XVL (s.without (xnL s xs args)) s xs args) (hN : (xnL s xs args).Nodup) (hk : xkeepL s xs args') (hf : xtreeL s xs args = true ∨ (xsafeL args' = true ∧ xflat t = true))
    (hU : ((xupdL s.gen xs args' ++ (emb s.gen ν t).2).map (·.1)).Nodup) :
    Calls P f vs.toArray w fun e w' => ∃ v m', e = .returned v ∧ RepV (envOf okA w0.new (s.after (xnL s xs args) (xupdL s.gen xs args' ++ (emb s.gen ν t).2)).heap (s.gen + 1) m' w') (emb s.gen ν t).1 v ∧
      Sim okA w0 (s.after (xnL s xs args) (xupdL s.gen xs args' ++ (emb s.gen ν t).2)) m' a w' :=
  (callY_sound S hr hd.denY hx hN (fun _ _ => hk) (hf.imp id fun h _ _ => h) (fun _ _ => hU)).mono fun _ _ ⟨_, _, h⟩ => h
end
end Go.Own
