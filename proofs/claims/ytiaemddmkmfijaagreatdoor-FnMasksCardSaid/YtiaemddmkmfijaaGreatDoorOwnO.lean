/-
  OWN WORK, generic over any program: the call of a function that writes what it is handed.
-/
import Derived.Test.YtiaemddmkmfijaaGreatDoorOwnN
namespace Go.Own
open Go Go.RowKit
variable [GL]
set_option linter.unusedSectionVars false

def lookupZ : Zs → Nat → Option (Option Nat)
  | [], _ => none
  | z :: r, t => if t = z.1.1 then some z.2 else lookupZ r t
theorem lookupU_none {U : List (Nat × Blk)} {β : Nat} (h : lookupU U β = none) : β ∉ U.map (·.1) := by
  induction U with
  | nil => simp
  | cons p U ih =>
    obtain ⟨k, v⟩ := p
    simp only [lookupU] at h
    split at h
    · simp at h
    · rename_i hne
      simp only [List.map_cons, List.mem_cons, not_or]
      exact ⟨hne, ih h⟩
theorem lookupZ_none {Z : Zs} {β : Nat} (h : lookupU (Z.map (·.1)) β = none) : lookupZ Z β = none := by
  induction Z with
  | nil => rfl
  | cons z Z ih =>
    simp only [List.map_cons, lookupU] at h
    split at h
    · simp at h
    · rename_i hne
      simp only [lookupZ, hne, if_false]
      exact ih h
theorem lookup_mem {Z : Zs} {β : Nat} {blk : Blk} (h : lookupU (Z.map (·.1)) β = some blk) : ∃ z ∈ Z, z.1 = (β, blk) ∧ lookupZ Z β = some z.2 := by
  induction Z with
  | nil => simp [lookupU] at h
  | cons z Z ih =>
    simp only [List.map_cons, lookupU] at h
    split at h
    · rename_i e
      simp only [Option.some.injEq] at h
      exact ⟨z, by simp, by rw [← h, e], by simp [lookupZ, e]⟩
    · rename_i hne
      obtain ⟨z', h1, h2, h3⟩ := ih h
      exact ⟨z', by simp [h1], h2, by simp [lookupZ, hne, h3]⟩
theorem lookup_of_mem {Z : Zs} (hn : (Z.map (·.1.1)).Nodup) : ∀ z ∈ Z, lookupU (Z.map (·.1)) z.1.1 = some z.1.2 ∧ lookupZ Z z.1.1 = some z.2 := by
  induction Z with
  | nil => simp
  | cons y Z ih =>
    simp only [List.map_cons, List.nodup_cons] at hn
    intro z hz
    rcases List.mem_cons.1 hz with rfl | hz
    · simp [lookupU, lookupZ]
    · have hne : ¬ z.1.1 = y.1.1 := fun e => hn.1 (e ▸ List.mem_map.2 ⟨z, hz, rfl⟩)
      simp only [List.map_cons, lookupU, lookupZ, hne, if_false]
      exact ih hn.2 z hz
theorem real_inj : ∀ {Z : Zs}, (Z.filterMap (·.2)).Nodup → ∀ {b : Nat}, ∀ z ∈ Z, ∀ z' ∈ Z, z.2 = some b → z'.2 = some b → z = z'
  | [], _, _, z, hz, _, _, _, _ => by simp at hz
  | y :: Z, hn, b, z, hz, z', hz', e, e' => by
    have hcase : ∀ x ∈ Z, x.2 = some b → y.2 = some b → False := fun x hx ex ey => by
      rw [List.filterMap_cons, ey] at hn
      exact (List.nodup_cons.1 hn).1 (List.mem_filterMap.2 ⟨x, hx, ex⟩)
    have htail : (Z.filterMap (·.2)).Nodup := by
      rw [List.filterMap_cons] at hn
      split at hn
      · exact hn
      · exact (List.nodup_cons.1 hn).2
    rcases List.mem_cons.1 hz with h1 | h1
    · rcases List.mem_cons.1 hz' with h2 | h2
      · rw [h1, h2]
      · exact (hcase z' h2 e' (h1 ▸ e)).elim
    · rcases List.mem_cons.1 hz' with h2 | h2
      · exact (hcase z h1 e (h2 ▸ e')).elim
      · exact real_inj htail z h1 z' h2 e e'
theorem nodup_real {m : Nat → Option Nat} {N : List Nat} (hn : N.Nodup) (hinj : ∀ β ∈ N, ∀ β' ∈ N, ∀ b, m β = some b → m β' = some b → β = β') : (N.filterMap m).Nodup := by
  induction N with
  | nil => simp
  | cons x N ih =>
    have h1 := List.nodup_cons.1 hn
    have ih' := ih h1.2 fun β hβ β' hβ' => hinj β (by simp [hβ]) β' (by simp [hβ'])
    rw [List.filterMap_cons]
    split
    · exact ih'
    · rename_i b hb
      refine List.nodup_cons.2 ⟨fun hmem => ?_, ih'⟩
      obtain ⟨y, hy, hyb⟩ := List.mem_filterMap.1 hmem
      exact h1.1 (hinj x (by simp) y (by simp [hy]) b hb hyb ▸ hy)

section
variable {P : Program} {okA : Nat → Prop} {w0 : Base} {s : ASt} {m : Nat → Option Nat} {a : Act} {w : World}

mutual
theorem xn_heap (s : ASt) : ∀ (t : XT) (x : AVal), ∀ β ∈ xn s x t, ∃ blk, s.heap β = some blk
  | .v t, x, β, h => by
    have e : xn s x (.v t) = [] := by cases x <;> rfl
    rw [e] at h; simp at h
  | .ol sz cells n, x, β, h => by
    cases x <;> simp only [xn] at h <;> try (simp at h; done)
    split at h
    case h_2 => simp at h
    rename_i blk hb
    rcases List.mem_cons.1 h with rfl | h
    · exact ⟨blk, (blkOf_spec hb).1⟩
    · exact xnL_heap s cells _ β h
  | .op cells, x, β, h => by
    cases x <;> simp only [xn] at h <;> try (simp at h; done)
    split at h
    case h_2 => simp at h
    rename_i blk hb
    rcases List.mem_cons.1 h with rfl | h
    · exact ⟨blk, (blkOf_spec hb).1⟩
    · exact xnL_heap s cells _ β h
  | .agg cs, x, β, h => by
    cases x <;> simp only [xn] at h <;> try (simp at h; done)
    exact xnL_heap s cs _ β h
  | .tup cs, x, β, h => by
    cases x <;> simp only [xn] at h <;> try (simp at h; done)
    exact xnL_heap s cs _ β h
theorem xnL_heap (s : ASt) : ∀ (cs : List XT) (xs : List AVal), ∀ β ∈ xnL s xs cs, ∃ blk, s.heap β = some blk
  | [], xs, β, h => by cases xs <;> simp [xnL] at h
  | c :: cs, [], β, h => by simp [xnL] at h
  | c :: cs, x :: xs, β, h => by
    simp only [xnL, List.mem_append] at h
    rcases h with h | h
    · exact xn_heap s c x β h
    · exact xnL_heap s cs xs β h
end
mutual
theorem xflat_any {E E' : Env} (hw : E'.w = E.w) : ∀ (t : XT) (v : Value) (S : List Nat), xflat t = true → RepX E t v S → RepX E' t v S
  | .v a, v, S, hf, ⟨h1, h2, h3⟩ => ⟨h1, h2, flatT_rep (by simpa [xflat] using hf) h3⟩
  | .ol sz cells n, v, S, hf, ⟨h1, a, c, h2, h3, h4, h5⟩ => ⟨h1, a, c, h2, h3, h4, h5.imp id fun ⟨q1, b, S', vs, q2, q3, q4, q5, q6⟩ => ⟨q1, b, S', vs, q2, q3, by rw [hw]; exact q4, xflatL_any hw cells vs S' true (by simpa [xflat] using hf) q5, by rw [hw]; exact q6⟩⟩
  | .op cells, v, S, hf, ⟨b, S', vs, q2, q3, q4, q5, q6⟩ => ⟨b, S', vs, q2, q3, by rw [hw]; exact q4, xflatL_any hw cells vs S' true (by simpa [xflat] using hf) q5, by rw [hw]; exact q6⟩
  | .agg cs, v, S, hf, ⟨vs, e, h⟩ => ⟨vs, e, xflatL_any hw cs vs S true (by simpa [xflat] using hf) h⟩
  | .tup cs, v, S, hf, ⟨vs, e, h⟩ => ⟨vs, e, xflatL_any hw cs vs S false (by simpa [xflat] using hf) h⟩
theorem xflatL_any {E E' : Env} (hw : E'.w = E.w) : ∀ (cs : List XT) (vs : List Value) (S : List Nat) (one : Bool), xflatL cs = true → RepXL E one cs vs S → RepXL E' one cs vs S
  | [], vs, S, one, _, h => h
  | c :: cs, vs, S, one, hf, ⟨v, r, S1, S2, q1, q2, q3, q4, q5⟩ => by
    simp only [xflatL, Bool.and_eq_true] at hf
    exact ⟨v, r, S1, S2, q1, q2, q3, xflat_any hw c v S1 hf.1 q4, xflatL_any hw cs r S2 one hf.2 q5⟩
end

mutual
/-- as 'RepX', but what is shared beside the memory handed over is not looked at -/
def RepU (E : Env) : XT → Value → List Nat → Prop
  | .v _, _, S => S = []
  | .ol sz cells n, v, S => RepX E (.ol sz cells n) v S
  | .op cells, v, S => RepX E (.op cells) v S
  | .agg cs, v, S => ∃ vs : List Value, v = .agg vs.toArray ∧ RepUL E cs vs S
  | .tup cs, v, S => RepX E (.tup cs) v S
def RepUL (E : Env) : List XT → List Value → List Nat → Prop
  | [], vs, S => vs = [] ∧ S = []
  | c :: cs, vs, S => ∃ v r S1 S2, vs = v :: r ∧ S = S1 ++ S2 ∧ RepU E c v S1 ∧ RepUL E cs r S2
end
mutual
theorem repU_of {E : Env} : ∀ (t : XT) (v : Value) (S : List Nat), RepX E t v S → RepU E t v S
  | .v _, _, _, ⟨h, _, _⟩ => h
  | .ol _ _ _, _, _, h => h
  | .op _, _, _, h => h
  | .agg cs, _, S, ⟨vs, e, h⟩ => ⟨vs, e, repUL_of cs vs S true h⟩
  | .tup _, _, _, h => h
theorem repUL_of {E : Env} : ∀ (cs : List XT) (vs : List Value) (S : List Nat) (one : Bool), RepXL E one cs vs S → RepUL E cs vs S
  | [], _, _, _, h => h
  | c :: cs, _, _, one, ⟨v, r, S1, S2, q1, q2, _, q4, q5⟩ => ⟨v, r, S1, S2, q1, q2, repU_of c v S1 q4, repUL_of cs r S2 one q5⟩
end
mutual
theorem xsafe_any {E E' : Env} (hw : E'.w = E.w) : ∀ (t : XT) (v : Value) (S : List Nat), xsafe t = true → RepU E t v S → RepU E' t v S
  | .v _, _, _, _, h => h
  | .ol sz cells n, v, S, hf, h => xflat_any hw (.ol sz cells n) v S (by simpa [xsafe, xflat] using hf) h
  | .op cells, v, S, hf, h => xflat_any hw (.op cells) v S (by simpa [xsafe, xflat] using hf) h
  | .agg cs, v, S, hf, ⟨vs, e, h⟩ => ⟨vs, e, xsafeL_any hw cs vs S (by simpa [xsafe] using hf) h⟩
  | .tup cs, v, S, hf, h => xflat_any hw (.tup cs) v S (by simpa [xsafe, xflat] using hf) h
theorem xsafeL_any {E E' : Env} (hw : E'.w = E.w) : ∀ (cs : List XT) (vs : List Value) (S : List Nat), xsafeL cs = true → RepUL E cs vs S → RepUL E' cs vs S
  | [], _, _, _, h => h
  | c :: cs, vs, S, hf, ⟨v, r, S1, S2, q1, q2, q4, q5⟩ => by
    simp only [xsafeL, Bool.and_eq_true] at hf
    exact ⟨v, r, S1, S2, q1, q2, xsafe_any hw c v S1 hf.1 q4, xsafeL_any hw cs r S2 hf.2 q5⟩
end

/-- kept, or new -/
def KeptZ (s : ASt) (m : Nat → Option Nat) (G : Nat) (z : (Nat × Blk) × Option Nat) : Prop :=
  z.1.2.gen = G ∨ ∃ blk, s.heap z.1.1 = some blk ∧ blk.gen = z.1.2.gen ∧ blk.size = z.1.2.size ∧ z.2 = m z.1.1
mutual
theorem xupd_sound (S : Sim okA w0 s m a w) {w' : World} {ok' : Nat → Prop} : ∀ (t : XT) (x : AVal) (v : Value) (T : List Nat), xkeep s x t → RepV (envOf okA w0.new s.heap s.gen m w) x v → RepU (treeEnv w' ok') t v T →
    ∃ Z : Zs, Z.map (·.1) = xupd s.gen x t ∧ Z.filterMap (·.2) = T ∧ (∀ z ∈ Z, KeptZ s m s.gen z) ∧
      ∀ E' : Env, E'.w = w' → (∀ b, ok' b → E'.ok b) → s.gen < E'.gen → (∀ z ∈ Z, E'.loc z.1.1 z.1.2.gen = some (z.2, z.1.2.size)) → ∀ z ∈ Z, GoodZ E' z
  | .v t, x, v, T, _, _, hT => ⟨[], by cases x <;> rfl, hT.symm, by simp, fun E' _ _ _ _ => by simp⟩
  | .ol sz cells n, x, v, T, hk, hr, ⟨hcl, ad, c, hv, hn, hcm, hcc⟩ => by
    cases x <;> simp only [xkeep] at hk <;> try exact hk.elim
    case nl =>
      obtain ⟨ad', hv'⟩ := hr
      rw [hv'] at hv
      simp only [Value.slice.injEq] at hv
      rcases hcc with ⟨_, rfl⟩ | ⟨h0, _⟩
      · exact ⟨[], rfl, rfl, by simp, fun E' _ _ _ _ => by simp⟩
      · exact (h0 hv.2.2.symm).elim
    case own β g off n' =>
      split at hk
      case h_2 => exact hk.elim
      rename_i blk hb
      obtain ⟨rfl, rfl, hsz⟩ := hk
      obtain ⟨hβ, hg⟩ := blkOf_spec hb
      obtain ⟨_, _, hp⟩ := hr
      obtain ⟨ad', c', hv', _, _, hcc', hcz'⟩ := hp _ _ (loc_of hβ hg)
      rw [hv'] at hv
      simp only [Value.slice.injEq] at hv
      obtain ⟨rfl, _, rfl⟩ := hv
      rcases hcc with ⟨hc0, rfl⟩ | ⟨hc0, b, S', vs, had, rfl, hh, hL, hcell⟩
      · have hn0 : n = 0 := by omega
        subst hn0
        have : cells = [] := List.eq_nil_of_length_eq_zero (by simpa using hcl)
        subst this
        refine ⟨[((β, ⟨g, sz, []⟩), none)], rfl, rfl, ?_, fun E' hw hok hg hloc => ?_⟩
        · intro z hz
          rw [List.mem_singleton.1 hz]
          exact .inr ⟨blk, hβ, hg, hsz, (hcz' rfl hc0).symm⟩
        · intro z hz
          rw [List.mem_singleton.1 hz]
          exact ⟨fun _ => rfl, fun b hb => by simp at hb⟩
      · obtain ⟨b2, hm, had2, _⟩ := hcc'.resolve_left hc0
        have hbb : b = b2 := by
          rw [had] at had2
          simpa using had2
        subst hbb
        obtain ⟨Z, h1, h2, h3⟩ := embL_sound (G := s.gen) cells β 0 true vs S' hL
        refine ⟨((β, ⟨g, sz, (embL s.gen β 0 cells).1⟩), some b) :: Z, by simp [xupd, h1], by simp [h2], ?_, fun E' hw hok hg hloc => ?_⟩
        · intro z hz
          rcases List.mem_cons.1 hz with rfl | hz
          · exact .inr ⟨blk, hβ, hg, hsz, hm.symm⟩
          · exact .inl (embL_gens cells β 0 _ (by rw [← h1]; exact List.mem_map.2 ⟨z, hz, rfl⟩))
        · obtain ⟨q1, q2, q3⟩ := h3 E' hw hok hg fun z hz => by
            have := hloc z (by simp [hz])
            rwa [embL_gens cells β 0 _ (by rw [← h1]; exact List.mem_map.2 ⟨z, hz, rfl⟩)] at this
          obtain ⟨arr, T, hh1, hh2, hh3⟩ := hh
          intro z hz
          rcases List.mem_cons.1 hz with rfl | hz
          · refine ⟨fun e => by simp at e, fun b' hb' => ?_⟩
            simp only [Option.some.injEq] at hb'
            subst hb'
            exact own_parts hw (embL_length cells 0) ⟨arr, T, hh1, hh2⟩ q1 (q2 rfl) hcell
          · exact q3 z hz
  | .op cells, x, v, T, hk, hr, ⟨b, S', vs, hv, hS, hh, hL, hcell⟩ => by
    cases x <;> simp only [xkeep] at hk <;> try exact hk.elim
    case ptr β g off =>
      split at hk
      case h_2 => exact hk.elim
      rename_i blk hb
      obtain ⟨rfl, hsz⟩ := hk
      obtain ⟨hβ, hg⟩ := blkOf_spec hb
      obtain ⟨_, _, hp⟩ := hr
      obtain ⟨b2, hm, hv'⟩ := hp _ _ (loc_of hβ hg)
      rw [hv'] at hv
      simp only [Value.pointer.injEq, Option.some.injEq, Addr.mk.injEq] at hv
      have hbb := hv.1
      subst hbb
      subst hS
      obtain ⟨Z, h1, h2, h3⟩ := embL_sound (G := s.gen) cells β 0 true vs S' hL
      refine ⟨((β, ⟨g, cells.length, (embL s.gen β 0 cells).1⟩), some b2) :: Z, by simp [xupd, h1], by simp [h2], ?_, fun E' hw hok hg hloc => ?_⟩
      · intro z hz
        rcases List.mem_cons.1 hz with rfl | hz
        · exact .inr ⟨blk, hβ, hg, hsz, hm.symm⟩
        · exact .inl (embL_gens cells β 0 _ (by rw [← h1]; exact List.mem_map.2 ⟨z, hz, rfl⟩))
      · obtain ⟨q1, q2, q3⟩ := h3 E' hw hok hg fun z hz => by
          have := hloc z (by simp [hz])
          rwa [embL_gens cells β 0 _ (by rw [← h1]; exact List.mem_map.2 ⟨z, hz, rfl⟩)] at this
        intro z hz
        rcases List.mem_cons.1 hz with rfl | hz
        · refine ⟨fun e => by simp at e, fun b' hb' => ?_⟩
          simp only [Option.some.injEq] at hb'
          subst hb'
          exact own_parts hw (embL_length cells 0) hh q1 (q2 rfl) hcell
        · exact q3 z hz
  | .agg cs, x, v, T, hk, hr, ⟨vs, hv, hL⟩ => by
    cases x <;> simp only [xkeep] at hk <;> try exact hk.elim
    case agg as =>
      obtain ⟨us, hu, hA⟩ := hr
      rw [hu] at hv
      have huv : us = vs := by simpa using hv
      subst huv
      exact xupdL_sound S cs as us T hk (repA_L hA) hL
  | .tup cs, x, v, T, hk, hr, _ => by
    cases x <;> simp only [xkeep] at hk
theorem xupdL_sound (S : Sim okA w0 s m a w) {w' : World} {ok' : Nat → Prop} : ∀ (cs : List XT) (xs : List AVal) (vs : List Value) (T : List Nat), xkeepL s xs cs → RepL (envOf okA w0.new s.heap s.gen m w) xs vs → RepUL (treeEnv w' ok') cs vs T →
    ∃ Z : Zs, Z.map (·.1) = xupdL s.gen xs cs ∧ Z.filterMap (·.2) = T ∧ (∀ z ∈ Z, KeptZ s m s.gen z) ∧
      ∀ E' : Env, E'.w = w' → (∀ b, ok' b → E'.ok b) → s.gen < E'.gen → (∀ z ∈ Z, E'.loc z.1.1 z.1.2.gen = some (z.2, z.1.2.size)) → ∀ z ∈ Z, GoodZ E' z
  | [], xs, vs, T, hk, _, ⟨_, hT⟩ => ⟨[], by cases xs <;> rfl, hT.symm, by simp, fun E' _ _ _ _ => by simp⟩
  | c :: cs, [], vs, T, hk, _, _ => hk.elim
  | c :: cs, x :: xs, vs, T, hk, ⟨v, r, e, hv, hl⟩, ⟨v', r', S1, S2, e', hT, hc, hL⟩ => by
    subst e
    simp only [List.cons.injEq] at e'
    obtain ⟨rfl, rfl⟩ := e'
    subst hT
    obtain ⟨Z1, a1, a2, a3, a4⟩ := xupd_sound S c x v S1 hk.1 hv hc
    obtain ⟨Z2, b1, b2, b3, b4⟩ := xupdL_sound S cs xs r S2 hk.2 hl hL
    refine ⟨Z1 ++ Z2, by simp [xupdL, a1, b1], by simp [a2, b2], fun z hz => ?_, fun E' hw hok hg hloc z hz => ?_⟩
    · rcases List.mem_append.1 hz with hz | hz
      · exact a3 z hz
      · exact b3 z hz
    · rcases List.mem_append.1 hz with hz | hz
      · exact a4 E' hw hok hg (fun z hz => hloc z (by simp [hz])) z hz
      · exact b4 E' hw hok hg (fun z hz => hloc z (by simp [hz])) z hz
end

theorem without_sub {s : ASt} {N : List Nat} : ∀ β blk, (s.without N).heap β = some blk → s.heap β = some blk ∧ β ∉ N := by
  intro β blk h
  simp only [ASt.without] at h
  split at h
  · simp at h
  · exact ⟨h, ‹_›⟩

theorem callY_sound (S : Sim okA w0 s m a w) {f : FuncId} {xs : List AVal} {ι : Type} {p : ι → Prop} {args : List XT} {args'' : ι → List XT} {t'' : ι → XT} {vs : List Value} {ν : Nat} (hr : RepL (envOf okA w0.new s.heap s.gen m w) xs vs) (hd : DenY P f args p args'' t'')
    (hx : XVL (s.without (xnL s xs args)) s xs args) (hN : (xnL s xs args).Nodup) (hk : ∀ i, p i → xkeepL s xs (args'' i)) (hf : xtreeL s xs args = true ∨ ∀ i, p i → (xsafeL (args'' i) = true ∧ xflat (t'' i) = true))
    (hU : ∀ i, p i → ((xupdL s.gen xs (args'' i) ++ (emb s.gen ν (t'' i)).2).map (·.1)).Nodup) :
    Calls P f vs.toArray w fun e w' => ∃ i, p i ∧ ∃ v m', e = .returned v ∧ RepV (envOf okA w0.new (s.after (xnL s xs args) (xupdL s.gen xs (args'' i) ++ (emb s.gen ν (t'' i)).2)).heap (s.gen + 1) m' w') (emb s.gen ν (t'' i)).1 v ∧
      Sim okA w0 (s.after (xnL s xs args) (xupdL s.gen xs (args'' i) ++ (emb s.gen ν (t'' i)).2)) m' a w' := by
  generalize hNe : xnL s xs args = N at *
  have hNh : ∀ β ∈ N, ∃ blk, s.heap β = some blk := fun β hβ => xnL_heap s args xs β (hNe ▸ hβ)
  have hS0 : ∀ b ∈ N.filterMap m, ∃ β ∈ N, m β = some b := fun b hb => by simpa using List.mem_filterMap.1 hb
  have hreal : ∀ b ∈ N.filterMap m, b < w.heap.size ∧ w0.new b := fun b hb => by
    obtain ⟨β, hβ, hm⟩ := hS0 b hb
    obtain ⟨blk, hblk⟩ := hNh β hβ
    obtain ⟨h1, ⟨arr, T, hh, _⟩, _⟩ := (S.blks β blk hblk).real b hm
    exact ⟨heap_lt hh, h1⟩
  have hapart : ∀ β blk b, s.heap β = some blk → β ∉ N → m β = some b → b ∉ N.filterMap m := fun β blk b hβ hn hm hb => by
    obtain ⟨β', hβ', hm'⟩ := hS0 b hb
    obtain ⟨blk', hblk'⟩ := hNh β' hβ'
    exact hn (S.inj β β' blk blk' b hβ hblk' hm hm' ▸ hβ')
  have hlt : ∀ β blk b, s.heap β = some blk → m β = some b → b < w.heap.size := fun β blk b hβ hm => by
    obtain ⟨_, ⟨arr, T, hh, _⟩, _⟩ := (S.blks β blk hβ).real b hm
    exact heap_lt hh
  have hnd0 : (N.filterMap m).Nodup := nodup_real hN fun β hβ β' hβ' b hm hm' => by
    obtain ⟨blk, hb⟩ := hNh β hβ
    obtain ⟨blk', hb'⟩ := hNh β' hβ'
    exact S.inj β β' blk blk' b hb hb' hm hm'
  obtain ⟨_, hden⟩ := hd
  -- the callee's sight of shared memory
  obtain ⟨ok, hok1, hok2, hglob, hrep⟩ : ∃ ok : Nat → Prop, (∀ b, ok b → b < w.heap.size ∧ b ∉ N.filterMap m) ∧ ((∀ b, ok b → (envOf okA w0.new s.heap s.gen m w).ok b) ∨ ∀ i, p i → (xsafeL (args'' i) = true ∧ xflat (t'' i) = true)) ∧
      Globs (treeEnv w ok) ∧ RepXL (treeEnv w ok) false args vs (N.filterMap m) := by
    have hin : ∀ b, (envOf okA w0.new s.heap s.gen m w).ok b → b < w.heap.size ∧ b ∉ N.filterMap m := fun b hb => ⟨hb.1, fun hmem => by
      obtain ⟨β, hβ, hm⟩ := hS0 b hmem
      obtain ⟨blk, hblk⟩ := hNh β hβ
      exact hb.2.2 β blk hblk hm⟩
    rcases hf with hf | hf
    · refine ⟨(envOf okA w0.new s.heap s.gen m w).ok, fun b hb => ⟨hb.1, fun hmem => ?_⟩, .inl fun b h => h, S.globs.tree fun b h => ⟨h, rfl⟩, ?_⟩
      · obtain ⟨β, hβ, hm⟩ := hS0 b hmem
        obtain ⟨blk, hblk⟩ := hNh β hβ
        exact hb.2.2 β blk hblk hm
      · have := xvl_sound S (ok := (envOf okA w0.new s.heap s.gen m w).ok) (fun b h => h) (sm := s.without N) (fun β blk h => (without_sub β blk h).1) true (fun h => by simp at h) args xs vs false hx (fun _ => hf) hr (fun h => by simp at h)
        rwa [hNe] at this
    · refine ⟨fun b => b < w.heap.size ∧ b ∉ N.filterMap m, fun b h => h, .inr hf, S.globs.tree fun b h => ⟨hin b h, rfl⟩, ?_⟩
      have := xvl_sound S (ok := fun b => b < w.heap.size ∧ b ∉ N.filterMap m) (fun b hb => ⟨hb.1, fun hmem => by
          obtain ⟨β, hβ, hm⟩ := hS0 b hmem
          obtain ⟨blk, hblk⟩ := hNh β hβ
          exact hb.2.2 β blk hblk hm⟩) (sm := s.without N) (fun β blk h => (without_sub β blk h).1) false
        (fun _ β blk b hβ hm => ⟨hlt β blk b (without_sub β blk hβ).1 hm, hapart β blk b (without_sub β blk hβ).1 (without_sub β blk hβ).2 hm⟩) args xs vs false hx (fun h => by simp at h) hr (fun h => by simp at h)
      rwa [hNe] at this
  refine (hden w vs ok (N.filterMap m) hok1 (fun b hb => (hreal b hb).1) hnd0 hglob hrep).mono ?_
  rintro e w' ⟨idx, hidx, v, S1, S2, rfl, ha', ht', hnd, hrange, hbel⟩
  refine ⟨idx, hidx, ?_⟩
  have hk := hk idx hidx
  have hU := hU idx hidx
  have hok2 : (∀ b, ok b → (envOf okA w0.new s.heap s.gen m w).ok b) ∨ (xsafeL (args'' idx) = true ∧ xflat (t'' idx) = true) := hok2.imp id fun h => h idx hidx
  generalize args'' idx = args' at *
  generalize t'' idx = t at *
  generalize hUe : xupdL s.gen xs args' ++ (emb s.gen ν t).2 = U at *
  -- shared memory behind the call
  obtain ⟨ok1, hoka, ha, ht⟩ : ∃ ok1 : Nat → Prop, (∀ b, ok1 b → b < w'.heap.size ∧ b ∉ S1 ++ S2 ∧ ((envOf okA w0.new s.heap s.gen m w).ok b ∨ b ∈ N.filterMap m ∨ w.heap.size ≤ b)) ∧ RepUL (treeEnv w' ok1) args' vs S1 ∧ RepX (treeEnv w' ok1) t v S2 := by
    rcases hok2 with h | h
    · exact ⟨_, fun b hb => ⟨hb.1, hb.2.1, hb.2.2.imp (h b) id⟩, repUL_of _ _ _ _ ha', ht'⟩
    · exact ⟨fun _ => False, fun b hb => hb.elim, xsafeL_any (by rfl) _ _ _ h.1 (repUL_of _ _ _ _ ha'), xflat_any (by rfl) _ _ _ h.2 ht'⟩
  obtain ⟨Z1, a1, a2, a3, a4⟩ := xupdL_sound S args' xs vs S1 hk hr ha
  obtain ⟨Z2, b1, b2, b3⟩ := emb_sound (G := s.gen) t ν v S2 ht
  have hZU : (Z1 ++ Z2).map (·.1) = U := by rw [List.map_append, a1, b1, hUe]
  have hZS : (Z1 ++ Z2).filterMap (·.2) = S1 ++ S2 := by rw [List.filterMap_append, a2, b2]
  have hZn : ((Z1 ++ Z2).map (·.1.1)).Nodup := by
    have : (Z1 ++ Z2).map (·.1.1) = U.map (·.1) := by rw [← hZU, List.map_map]; rfl
    rw [this]; exact hU
  have hZk : ∀ z ∈ Z1 ++ Z2, KeptZ s m s.gen z := fun z hz => by
    rcases List.mem_append.1 hz with hz | hz
    · exact a3 z hz
    · exact .inl (emb_gens t ν _ (by rw [← b1]; exact List.mem_map.2 ⟨z, hz, rfl⟩))
  have hgood : ∀ E' : Env, E'.w = w' → (∀ b, ok1 b → E'.ok b) → s.gen < E'.gen → (∀ z ∈ Z1 ++ Z2, E'.loc z.1.1 z.1.2.gen = some (z.2, z.1.2.size)) → RepV E' (emb s.gen ν t).1 v ∧ ∀ z ∈ Z1 ++ Z2, GoodZ E' z := fun E' q1 q2 q3 q4 => by
    obtain ⟨p1, p2⟩ := b3 E' q1 q2 q3 fun z hz => by
      have := q4 z (by simp [hz])
      rwa [emb_gens t ν _ (by rw [← b1]; exact List.mem_map.2 ⟨z, hz, rfl⟩)] at this
    refine ⟨p1, fun z hz => ?_⟩
    rcases List.mem_append.1 hz with hz | hz
    · exact a4 E' q1 q2 q3 (fun z hz => q4 z (by simp [hz])) z hz
    · exact p2 z hz
  clear a4 b3
  generalize Z1 ++ Z2 = Z at hZU hZS hZn hZk hgood
  subst hZU
  let m' : Nat → Option Nat := fun β => match lookupZ Z β with | some r => r | none => m β
  let h' : Nat → Option Blk := (s.after N (Z.map (·.1))).heap
  have old : ∀ β, lookupU (Z.map (·.1)) β = none → m' β = m β ∧ h' β = if β ∈ N then none else s.heap β := fun β hβ => by
    refine ⟨?_, ?_⟩
    · show (match lookupZ Z β with | some r => r | none => m β) = m β
      rw [lookupZ_none hβ]
    · show (match lookupU (Z.map (·.1)) β with | some blk => some blk | none => if β ∈ N then none else s.heap β) = _
      rw [hβ]
  have inZ : ∀ z ∈ Z, m' z.1.1 = z.2 ∧ h' z.1.1 = some z.1.2 := fun z hz => by
    obtain ⟨q1, q2⟩ := lookup_of_mem hZn z hz
    refine ⟨?_, ?_⟩
    · show (match lookupZ Z z.1.1 with | some r => r | none => m z.1.1) = z.2
      rw [q2]
    · show (match lookupU (Z.map (·.1)) z.1.1 with | some blk => some blk | none => if z.1.1 ∈ N then none else s.heap z.1.1) = _
      rw [q1]
  -- a name behind the call is one of the new ones, or one that was left alone
  have split' : ∀ β blk, h' β = some blk → (∃ z ∈ Z, z.1 = (β, blk) ∧ m' β = z.2) ∨ (lookupU (Z.map (·.1)) β = none ∧ s.heap β = some blk ∧ β ∉ N ∧ m' β = m β) := fun β blk hβ => by
    cases hl : lookupU (Z.map (·.1)) β with
    | some blk' =>
      obtain ⟨z, q1, q2, q3⟩ := lookup_mem hl
      have := inZ z q1
      rw [q2] at this
      rw [this.2] at hβ
      simp only [Option.some.injEq] at hβ
      exact .inl ⟨z, q1, by rw [q2, hβ], this.1⟩
    | none =>
      obtain ⟨q1, q2⟩ := old β hl
      rw [q2] at hβ
      split at hβ
      · simp at hβ
      · exact .inr ⟨rfl, hβ, ‹_›, q1⟩
  have hmemZ : ∀ z ∈ Z, ∀ b, z.2 = some b → b ∈ S1 ++ S2 := fun z hz b hb => by rw [← hZS]; exact List.mem_filterMap.2 ⟨z, hz, hb⟩
  have same : ∀ b, b < w.heap.size → b ∉ N.filterMap m → w'.heap[b]? = w.heap[b]? := fun b h1 h2 => hbel.block b h1 h2
  have hle : EnvLe (envOf okA w0.new s.heap s.gen m w) (envOf okA w0.new h' (s.gen + 1) m' w') := by
    refine ⟨fun b ⟨q1, q2, q3⟩ => ?_, Nat.le_succ _, fun β g r sz hg hl => ?_⟩
    · have hnb : b ∉ N.filterMap m := fun hb => by
        obtain ⟨β, hβ, hm⟩ := hS0 b hb
        obtain ⟨blk, hblk⟩ := hNh β hβ
        exact q3 β blk hblk hm
      refine ⟨⟨Nat.lt_of_lt_of_le q1 hbel.size, q2, fun β blk hβ hm => ?_⟩, same b q1 hnb⟩
      rcases split' β blk hβ with ⟨z, hz, _, e⟩ | ⟨_, hh, _, e⟩
      · have := (hrange b (hmemZ z hz b (e ▸ hm))).2
        rcases this with h | h
        · exact hnb h
        · have h : w.heap.size ≤ b := h
          have q1 : b < w.heap.size := q1
          omega
      · exact q3 β blk hh (e ▸ hm)
    · have room : ∀ b k, (envOf okA w0.new s.heap s.gen m w).room b k → (envOf okA w0.new h' (s.gen + 1) m' w').room b k := fun b k ⟨arr, T, fz, q1, q2⟩ => by
        by_cases hb : b ∈ N.filterMap m
        · obtain ⟨arr', T', fz', p1, p2⟩ := hbel.room b hb arr T fz q1
          exact ⟨arr', T', fz', p1, Nat.le_trans q2 p2⟩
        · exact ⟨arr, T, fz, (same b (heap_lt q1) hb).trans q1, q2⟩
      simp only [envOf] at hl hg
      split at hl
      case h_2 => simp at hl
      rename_i blk hblk
      split at hl
      case isFalse => simp at hl
      rename_i hgg
      refine ⟨?_, fun b k _ hr => room b k hr⟩
      rcases split' β blk hblk with ⟨z, hz, ez, e⟩ | ⟨_, hh, _, e⟩
      · rcases hZk z hz with hk | ⟨blk0, k1, k2, k3, k4⟩
        · rw [ez] at hk
          simp only at hk
          omega
        · rw [ez] at k1 k2 k3 k4
          simp only at k1 k2 k3 k4
          simp only [envOf, k1, k2, hgg, if_true, k3]
          rw [e, k4] at hl
          exact hl
      · simp only [envOf, hh, hgg, if_true]
        rw [e] at hl
        exact hl
  have hok1' : ∀ b, ok1 b → (envOf okA w0.new h' (s.gen + 1) m' w').ok b := fun b hb => by
    obtain ⟨q1, q2, q3⟩ := hoka b hb
    refine ⟨q1, ?_, fun β blk hβ hm => ?_⟩
    · rcases q3 with q3 | q3 | q3
      · exact q3.2.1
      · exact .inr (hreal b q3).2
      · exact .inr (.inl (Nat.le_trans S.below.size q3))
    · rcases split' β blk hβ with ⟨z, hz, _, e⟩ | ⟨_, hh, hn, e⟩
      · exact q2 (hmemZ z hz b (e ▸ hm))
      · rw [e] at hm
        rcases q3 with q3 | q3 | q3
        · exact q3.2.2 β blk hh hm
        · exact hapart β blk b hh hn hm q3
        · have := hlt β blk b hh hm
          omega
  obtain ⟨hv, hgz⟩ := hgood (envOf okA w0.new h' (s.gen + 1) m' w') rfl hok1' (Nat.lt_succ_self _) fun z hz => by
    obtain ⟨q1, q2⟩ := inZ z hz
    simp only [envOf, q2, q1, if_true]
  refine ⟨v, m', rfl, hv, ?_⟩
  refine ⟨S.size, S.defers, fun t => repV_mono hle _ _ (S.tmps t), fun p hp => repV_mono hle _ _ (S.pins p hp), fun β blk hβ => ?_, fun β β' blk blk' b hβ hβ' hm hm' => ?_, ?_, S.okA, S.K⟩
  · rcases split' β blk hβ with ⟨z, hz, ez, e⟩ | ⟨_, hh, hn, e⟩
    · obtain ⟨g1, g2⟩ := hgz z hz
      refine ⟨?_, fun h => ?_, fun b hb => ?_⟩
      · rcases hZk z hz with hk | ⟨blk0, k1, k2, k3, k4⟩
        · rw [ez] at hk
          show blk.gen < s.gen + 1
          simp only at hk
          omega
        · rw [ez] at k1 k2
          simp only at k1 k2
          have := (S.blks β blk0 k1).gen
          show blk.gen < s.gen + 1
          omega
      · have := g1 (by rw [← e]; exact h)
        rwa [ez] at this
      · rw [e] at hb
        have hr2 := hrange b (hmemZ z hz b hb)
        obtain ⟨p1, p2⟩ := g2 b hb
        rw [ez] at p1 p2
        refine ⟨?_, p1, p2⟩
        rcases hr2.2 with h | h
        · exact (hreal b h).2
        · exact .inl (Nat.le_trans S.below.size h)
    · exact (S.blks β blk hh).mono (Nat.le_succ _) e hle fun b hm => same b (hlt β blk b hh hm) (hapart β blk b hh hn hm)
  · rcases split' β blk hβ with ⟨z, hz, ez, e⟩ | ⟨_, hh, hn, e⟩ <;> rcases split' β' blk' hβ' with ⟨z', hz', ez', e'⟩ | ⟨_, hh', hn', e'⟩
    · have := real_inj (by rw [hZS]; exact hnd) z hz z' hz' (e ▸ hm) (e' ▸ hm')
      have e1 : z.1.1 = β := by rw [ez]
      have e2 : z'.1.1 = β' := by rw [ez']
      rw [← e1, ← e2, this]
    · exfalso
      rw [e'] at hm'
      rcases (hrange b (hmemZ z hz b (e ▸ hm))).2 with h | h
      · exact hapart β' blk' b hh' hn' hm' h
      · have := hlt β' blk' b hh' hm'
        omega
    · exfalso
      rw [e] at hm
      rcases (hrange b (hmemZ z' hz' b (e' ▸ hm'))).2 with h | h
      · exact hapart β blk b hh hn hm h
      · have := hlt β blk b hh hm
        omega
    · rw [e] at hm
      rw [e'] at hm'
      exact S.inj β β' blk blk' b hh hh' hm hm'
  · refine S.below.change hbel.os hbel.tape hbel.output hbel.size (fun k hk hn => same k hk fun hmem => hn (hreal k hmem).2) fun k arr T fz _ e => ?_
    by_cases hb : k ∈ N.filterMap m
    · exact hbel.room k hb arr T fz e
    · exact ⟨arr, T, fz, (same k (heap_lt e) hb).trans e, Nat.le_refl _⟩
theorem callX_sound (S : Sim okA w0 s m a w) {f : FuncId} {xs : List AVal} {args args' : List XT} {t : XT} {vs : List Value} {ν : Nat} (hr : RepL (envOf okA w0.new s.heap s.gen m w) xs vs) (hd : DenX P f args args' t)
    (hx : XVL (s.without (xnL s xs args)) s xs args) (hN : (xnL s xs args).Nodup) (hk : xkeepL s xs args') (hf : xtreeL s xs args = true ∨ (xsafeL args' = true ∧ xflat t = true))
    (hU : ((xupdL s.gen xs args' ++ (emb s.gen ν t).2).map (·.1)).Nodup) :
    Calls P f vs.toArray w fun e w' => ∃ v m', e = .returned v ∧ RepV (envOf okA w0.new (s.after (xnL s xs args) (xupdL s.gen xs args' ++ (emb s.gen ν t).2)).heap (s.gen + 1) m' w') (emb s.gen ν t).1 v ∧
      Sim okA w0 (s.after (xnL s xs args) (xupdL s.gen xs args' ++ (emb s.gen ν t).2)) m' a w' :=
  (callY_sound S hr hd.denY hx hN (fun _ _ => hk) (hf.imp id fun h _ _ => h) (fun _ _ => hU)).mono fun _ _ ⟨_, _, h⟩ => h
end
end Go.Own
