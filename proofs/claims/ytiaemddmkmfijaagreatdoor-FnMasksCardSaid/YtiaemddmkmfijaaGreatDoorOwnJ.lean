/-
  OWN WORK, generic over any program: what is owned, read as trees; calls; regions, in the text's order and in whatever order is drawn.
-/
import Derived.Test.YtiaemddmkmfijaaGreatDoorOwnI
import Derived.Deep.LoopGhost
namespace Go.Own
open Go Go.RowKit
variable [GL]
set_option linter.unusedSectionVars false

mutual
theorem flatT_rep {E E' : Env} : ∀ {t : AVal} {v : Value}, t.flatT = true → RepV E t v → RepV E' t v
  | .flat _, _, _, h => h
  | .agg cs, _, ht, ⟨vs, e, hl⟩ => ⟨vs, e, flatA_rep (by simpa [AVal.flatT] using ht) hl⟩
  | .tup cs, _, ht, ⟨vs, e, hl⟩ => ⟨vs, e, flatL_rep (by simpa [AVal.flatT] using ht) hl⟩
  | .lst _ _, _, ht, _ | .nl, _, ht, _ | .iptr _ _, _, ht, _ | .own _ _ _ _, _, ht, _ | .ptr _ _ _, _, ht, _ | .clo _ _, _, ht, _ | .bnd _ _, _, ht, _ | .row _, _, ht, _ | .kin _, _, ht, _ | .anyb, _, ht, _ | .dead, _, ht, _ => by simp [AVal.flatT] at ht
theorem flatA_rep {E E' : Env} : ∀ {cs : List AVal} {vs : List Value}, (∀ c ∈ cs, isFlat c = true) → RepA E cs vs → RepA E' cs vs
  | [], _, _, h => h
  | c :: cs, _, ht, ⟨v, r, e, h1, hv, hl⟩ => by
    refine ⟨v, r, e, h1, ?_, flatA_rep (fun x hx => ht x (by simp [hx])) hl⟩
    have := ht c (by simp)
    cases c <;> simp [isFlat] at this
    exact hv
theorem flatL_rep {E E' : Env} : ∀ {cs : List AVal} {vs : List Value}, (∀ c ∈ cs, isFlat c = true) → RepL E cs vs → RepL E' cs vs
  | [], _, _, h => h
  | c :: cs, _, ht, ⟨v, r, e, hv, hl⟩ => by
    refine ⟨v, r, e, ?_, flatL_rep (fun x hx => ht x (by simp [hx])) hl⟩
    have := ht c (by simp)
    cases c <;> simp [isFlat] at this
    exact hv
end

/-- the one value that a flat tree stands for -/
theorem flatT_one {E E' : Env} {t : AVal} {v u : Value} (ht : t.flatT = true) (h : RepV E t v) (h' : RepV E' t u) : u = v := by
  have L : ∀ {cs : List AVal} {vs us : List Value}, (∀ c ∈ cs, isFlat c = true) → RepL E cs vs → RepL E' cs us → us = vs := by
    intro cs
    induction cs with
    | nil => intro vs us _ h1 h2; simp only [RepL] at h1 h2; rw [h1, h2]
    | cons c cs ih =>
      intro vs us hc ⟨v, r, e, hv, hl⟩ ⟨v', r', e', hv', hl'⟩
      have h0 := hc c (by simp)
      cases c <;> simp [isFlat] at h0
      rw [e, e', ih (fun x hx => hc x (by simp [hx])) hl hl', hv.2, hv'.2]
  cases t with
  | flat w => rw [h.2, h'.2]
  | agg cs =>
    obtain ⟨vs, e, hl⟩ := h
    obtain ⟨us, e', hl'⟩ := h'
    rw [e, e', L (by simpa [AVal.flatT] using ht) (repA_L hl) (repA_L hl')]
  | tup cs =>
    obtain ⟨vs, e, hl⟩ := h
    obtain ⟨us, e', hl'⟩ := h'
    rw [e, e', L (by simpa [AVal.flatT] using ht) hl hl']
  | _ => simp [AVal.flatT] at ht

section
variable {P : Program} {okA : Nat → Prop} {w0 : Base} {s : ASt} {m : Nat → Option Nat} {a : Act} {w : World}

theorem mapM_repL {E E' : Env} {f : AVal → Option AVal} : ∀ {cs l : List AVal} {vs : List Value}, (∀ x ∈ cs, ∀ t v, f x = some t → RepV E x v → RepV E' t v ∧ t.tree = true) → cs.mapM f = some l → RepL E cs vs → RepL E' l vs ∧ treeL l = true
  | [], l, vs, _, h, hr => by simp at h; subst h; exact ⟨hr, rfl⟩
  | c :: cs, l, vs, hf, h, ⟨v, r, e, hv, hl⟩ => by
    simp only [List.mapM_cons, Option.bind_eq_bind, Option.bind_eq_some_iff, Option.pure_def, Option.some.injEq] at h
    obtain ⟨t, ht, l', hl', rfl⟩ := h
    obtain ⟨h1, h2⟩ := hf c (by simp) t v ht hv
    obtain ⟨h3, h4⟩ := mapM_repL (fun x hx => hf x (by simp [hx])) hl' hl
    exact ⟨⟨v, r, e, h1, h3⟩, by simp [treeL, h2, h4]⟩
theorem mapM_repA {E E' : Env} {f : AVal → Option AVal} : ∀ {cs l : List AVal} {vs : List Value}, (∀ x ∈ cs, ∀ t v, f x = some t → RepV E x v → RepV E' t v ∧ t.tree = true) → cs.mapM f = some l → RepA E cs vs → RepA E' l vs ∧ treeL l = true
  | [], l, vs, _, h, hr => by simp at h; subst h; exact ⟨hr, rfl⟩
  | c :: cs, l, vs, hf, h, ⟨v, r, e, h0, hv, hl⟩ => by
    simp only [List.mapM_cons, Option.bind_eq_bind, Option.bind_eq_some_iff, Option.pure_def, Option.some.injEq] at h
    obtain ⟨t, ht, l', hl', rfl⟩ := h
    obtain ⟨h1, h2⟩ := hf c (by simp) t v ht hv
    obtain ⟨h3, h4⟩ := mapM_repA (fun x hx => hf x (by simp [hx])) hl' hl
    exact ⟨⟨v, r, e, h0, h1, h3⟩, by simp [treeL, h2, h4]⟩
theorem mapM_repC {E E' : Env} {f : AVal → Option AVal} {b : Nat} (hb : E'.w.heap[b]? = E.w.heap[b]?) : ∀ {cs l : List AVal} {off : Nat}, (∀ x ∈ cs, ∀ t v, f x = some t → RepV E x v → RepV E' t v ∧ t.tree = true) → cs.mapM f = some l → RepC E cs b off → RepC E' l b off ∧ treeL l = true
  | [], l, off, _, h, hr => by simp at h; subst h; exact ⟨trivial, rfl⟩
  | c :: cs, l, off, hf, h, ⟨⟨v, e, h0, hv⟩, hl⟩ => by
    simp only [List.mapM_cons, Option.bind_eq_bind, Option.bind_eq_some_iff, Option.pure_def, Option.some.injEq] at h
    obtain ⟨t, ht, l', hl', rfl⟩ := h
    obtain ⟨h1, h2⟩ := hf c (by simp) t v ht hv
    obtain ⟨h3, h4⟩ := mapM_repC hb (fun x hx => hf x (by simp [hx])) hl' hl
    exact ⟨⟨⟨v, (cell_same hb).trans e, h0, h1⟩, h3⟩, by simp [treeL, h2, h4]⟩

theorem snap_sound (S : Sim okA w0 s m a w) {ok : Nat → Prop} (hok : ∀ b, (envOf okA w0.new s.heap s.gen m w).ok b → ok b) (t0 : Bool) {sm : ASt} (hsub : ∀ β blk, sm.heap β = some blk → s.heap β = some blk) (hown : t0 = false → ∀ β blk b, sm.heap β = some blk → m β = some b → ok b) :
    ∀ (k : Nat) (t t' : AVal) (v : Value), snap k sm t = some t' → (t0 = true → t.tree = true) → RepV (envOf okA w0.new s.heap s.gen m w) t v → RepV (treeEnv w ok) t' v ∧ t'.tree = true := by
  have hE : ∀ b, (envOf okA w0.new s.heap s.gen m w).ok b → (treeEnv w ok).ok b ∧ (treeEnv w ok).w.heap[b]? = (envOf okA w0.new s.heap s.gen m w).w.heap[b]? := fun b h => ⟨hok b h, rfl⟩
  intro k
  induction k with
  | zero => intro t t' v h; simp [snap] at h
  | succ k ih =>
    intro t t' v h htr hr
    unfold snap at h
    split at h
    · rename_i β g off n
      have ht0 : t0 = false := by
        cases t0 with
        | false => rfl
        | true => have := htr rfl; simp [AVal.tree] at this
      split at h
      case h_2 => simp at h
      rename_i blk hb
      split at h
      case isFalse => simp at h
      rename_i hlen
      obtain ⟨hβm, hg⟩ := blkOf_spec hb
      have hβ := hsub _ _ hβm
      obtain ⟨_, _, hp⟩ := hr
      obtain ⟨ad, c, rfl, hn, hcm, hcc, _⟩ := hp _ _ (loc_of hβ hg)
      have body : ∀ l : List AVal, (((blk.cells.drop off).take (n * blk.size) = [] → l = []) ∧ ∀ b, m β = some b → RepC (treeEnv w ok) l b off) → RepV (treeEnv w ok) (.lst l n) (.slice ad n c) := fun l hl => by
        refine ⟨ad, c, rfl, hn, hcm, ?_⟩
        by_cases h0 : c = 0
        · exact .inl (hl.1 (by rw [show n = 0 by omega]; simp))
        · obtain ⟨b, hm, rfl, hroom⟩ := hcc.resolve_left h0
          exact .inr ⟨b, off, rfl, hown ht0 β blk b hβm hm, hl.2 b hm⟩
      have seg : ∀ b, m β = some b → RepC (envOf okA w0.new s.heap s.gen m w) ((blk.cells.drop off).take (n * blk.size)) b off := fun b hm => by
        have := repC_take (n * blk.size) (repC_drop off ((S.blks β blk hβ).real b hm).2.2)
        rwa [Nat.zero_add] at this
      split at h
      · rename_i hall
        simp only [Option.some.injEq] at h
        subst h
        exact ⟨body _ ⟨id, fun b hm => repC_tree hE rfl _ _ hall (seg b hm)⟩, by simpa [AVal.tree] using hall⟩
      · split at h
        case h_2 => simp at h
        rename_i l hl
        simp only [Option.some.injEq] at h
        subst h
        have hmap : ∀ x ∈ (blk.cells.drop off).take (n * blk.size), ∀ t v, snap k sm x = some t → RepV (envOf okA w0.new s.heap s.gen m w) x v → RepV (treeEnv w ok) t v ∧ t.tree = true :=
          fun x _ t v h1 h2 => ih x t v h1 (fun e => by rw [ht0] at e; simp at e) h2
        refine ⟨body l ⟨fun e => by rw [e] at hl; simpa using hl.symm, fun b hm => (mapM_repC (E := envOf okA w0.new s.heap s.gen m w) (E' := treeEnv w ok) rfl hmap hl (seg b hm)).1⟩, ?_⟩
        show treeL l = true
        by_cases hz : (blk.cells.drop off).take (n * blk.size) = []
        · rw [hz] at hl; simp at hl; subst hl; rfl
        · have hb2 : m β ≠ none := fun e => by
            have := (S.blks β blk hβ).virt e
            rw [this] at hz; simp at hz
          obtain ⟨b, hm⟩ := Option.ne_none_iff_exists'.1 hb2
          exact (mapM_repC (E := envOf okA w0.new s.heap s.gen m w) (E' := treeEnv w ok) rfl hmap hl (seg b hm)).2
    · rename_i β g off
      have ht0 : t0 = false := by
        cases t0 with
        | false => rfl
        | true => have := htr rfl; simp [AVal.tree] at this
      split at h
      case h_2 => simp at h
      rename_i blk hb
      obtain ⟨hβm, hg⟩ := blkOf_spec hb
      have hβ := hsub _ _ hβm
      obtain ⟨_, _, hp⟩ := hr
      obtain ⟨b, hm, rfl⟩ := hp _ _ (loc_of hβ hg)
      obtain ⟨hB, ⟨arr, T, hh, _⟩, hC⟩ := (S.blks β blk hβ).real b hm
      have hokb := hown ht0 β blk b hβm hm
      split at h
      · rename_i hall
        simp only [Option.some.injEq] at h
        subst h
        exact ⟨⟨b, 0, by simp, hokb, repC_tree hE rfl _ _ hall hC⟩, by simpa [AVal.tree] using hall⟩
      · split at h
        case h_2 => simp at h
        rename_i l hl
        simp only [Option.some.injEq] at h
        subst h
        obtain ⟨h1, h2⟩ := mapM_repC (E := envOf okA w0.new s.heap s.gen m w) (E' := treeEnv w ok) rfl (fun x _ t v h1 h2 => ih x t v h1 (fun e => by rw [ht0] at e; simp at e) h2) hl hC
        exact ⟨⟨b, 0, by simp, hokb, h1⟩, by simpa [AVal.tree] using h2⟩
    · rename_i cs
      split at h
      case h_2 => simp at h
      rename_i l hl
      simp only [Option.some.injEq] at h
      subst h
      obtain ⟨vs, e, hA⟩ := hr
      obtain ⟨h1, h2⟩ := mapM_repA (E' := treeEnv w ok) (fun x hx t v h1 h2 => ih x t v h1 (fun e => (treeL_iff cs).1 (by simpa [AVal.tree] using htr e) x hx) h2) hl hA
      exact ⟨⟨vs, e, h1⟩, by simpa [AVal.tree] using h2⟩
    · rename_i cs
      split at h
      case h_2 => simp at h
      rename_i l hl
      simp only [Option.some.injEq] at h
      subst h
      obtain ⟨vs, e, hA⟩ := hr
      obtain ⟨h1, h2⟩ := mapM_repL (E' := treeEnv w ok) (fun x hx t v h1 h2 => ih x t v h1 (fun e => (treeL_iff cs).1 (by simpa [AVal.tree] using htr e) x hx) h2) hl hA
      exact ⟨⟨vs, e, h1⟩, by simpa [AVal.tree] using h2⟩
    · rename_i f cs
      split at h
      case h_2 => simp at h
      rename_i l hl
      simp only [Option.some.injEq] at h
      subst h
      obtain ⟨vs, e, hA⟩ := hr
      obtain ⟨h1, h2⟩ := mapM_repL (E' := treeEnv w ok) (fun x hx t v h1 h2 => ih x t v h1 (fun e => (treeL_iff cs).1 (by simpa [AVal.tree] using htr e) x hx) h2) hl hA
      exact ⟨⟨vs, e, h1⟩, by simpa [AVal.tree] using h2⟩
    · rename_i f cs
      split at h
      case h_2 => simp at h
      rename_i l hl
      simp only [Option.some.injEq] at h
      subst h
      obtain ⟨vs, e, hA⟩ := hr
      obtain ⟨h1, h2⟩ := mapM_repL (E' := treeEnv w ok) (fun x hx t v h1 h2 => ih x t v h1 (fun e => (treeL_iff cs).1 (by simpa [AVal.tree] using htr e) x hx) h2) hl hA
      exact ⟨⟨vs, e, h1⟩, by simpa [AVal.tree] using h2⟩
    · simp only [Option.some.injEq] at h
      subst h
      obtain ⟨ad, rfl⟩ := hr
      exact ⟨⟨ad, 0, rfl, Nat.le_refl _, Nat.zero_le _, .inl rfl⟩, rfl⟩
    · simp at h
    · split at h
      case isFalse => simp at h
      rename_i htree
      simp only [Option.some.injEq] at h
      subst h
      exact ⟨repV_tree hE _ _ htree hr, htree⟩

theorem snapL_sound (S : Sim okA w0 s m a w) {ok : Nat → Prop} (hok : ∀ b, (envOf okA w0.new s.heap s.gen m w).ok b → ok b) (t0 : Bool) (hown : t0 = false → ∀ β blk b, s.heap β = some blk → m β = some b → ok b) :
    ∀ {l as : List AVal} {vs : List Value}, snapL s l = some as → (t0 = true → treeL l = true) → RepL (envOf okA w0.new s.heap s.gen m w) l vs → RepL (treeEnv w ok) as vs
  | [], as, vs, h, _, hr => by simp [snapL] at h; subst h; exact hr
  | x :: l, as, vs, h, ht, ⟨v, r, e, hv, hl⟩ => by
    simp only [snapL] at h
    split at h
    · rename_i x' l' hx hl'
      simp only [Option.some.injEq] at h
      subst h
      have ht' : t0 = true → x.tree = true ∧ treeL l = true := fun h => by simpa [treeL] using ht h
      exact ⟨v, r, e, (snap_sound S hok t0 (fun _ _ h => h) hown 6 x x' v hx (fun h => (ht' h).1) hv).1, snapL_sound S hok t0 hown hl' (fun h => (ht' h).2) hl⟩
    · simp at h

theorem repL_append {E : Env} : ∀ {cs ds : List AVal} {vs us : List Value}, RepL E cs vs → RepL E ds us → RepL E (cs ++ ds) (vs ++ us)
  | [], _, _, _, h, h2 => by simp only [RepL] at h; subst h; simpa using h2
  | _ :: _, _, _, _, ⟨v, r, e, hv, hl⟩, h2 => by subst e; exact ⟨v, _, rfl, hv, repL_append hl h2⟩

theorem run_callFunc {f : FuncId} {fn : Func} (hf : P.funcs[f]? = some fn) (hb : fn.body.isSome = true) (hn : (fn.name == "runtime.NumGoroutine") = false) (args : Array Value) (w' : World) : (callFunc f args).run P w' = .ok (.enter f args) w' := by
  have hb' : ¬ fn.body = none := by cases h : fn.body <;> simp_all
  have hn' : ¬ fn.name = "runtime.NumGoroutine" := by simpa using hn
  simp [callFunc, hf, hb', hn']

/-- what a function value calls -/
theorem cloQ_exec (S : Sim okA w0 s m a w) {o : Oper} {fx : Operand} {args : Array Operand} {ats : Array TypeId} {f : FuncId} {xs : List AVal} (ho : o.op = .call ⟨.value fx, args, ats⟩)
    (hfx : cloQ (s.eval fx) (args.toList.map s.eval) = some (f, xs)) (hd : ∃ fn, P.funcs[f]? = some fn ∧ fn.body.isSome = true ∧ (fn.name == "runtime.NumGoroutine") = false) :
    ∃ vs : List Value, (∀ w' : World, (execOp a.eval o).run P w' = .ok (.enter f vs.toArray) w') ∧ RepL (envOf okA w0.new s.heap s.gen m w) xs vs := by
  obtain ⟨fn, hf, hb, hn⟩ := hd
  have hv := S.eval fx
  cases hq : s.eval fx <;> rw [hq] at hfx hv <;> simp only [cloQ, Option.some.injEq, Prod.mk.injEq, reduceCtorEq] at hfx
  · obtain ⟨rfl, rfl⟩ := hfx
    obtain ⟨us, hfv, hcs⟩ := hv
    refine ⟨args.toList.map a.eval ++ us, fun w' => ?_, repL_append (repL_eval S args.toList) hcs⟩
    have e : (args.toList.map a.eval ++ us).toArray = #[] ++ args.map a.eval ++ us.toArray := by apply Array.ext'; simp
    simp only [execOp, ho, resolve, hfv, Deferred.ofValue, Sem.run_bind, Sem.run_pure, Result.andThen_ok, invoke, run_callFunc hf hb hn, e]
  · obtain ⟨rfl, rfl⟩ := hfx
    obtain ⟨us, hfv, hcs⟩ := hv
    refine ⟨us ++ args.toList.map a.eval, fun w' => ?_, repL_append hcs (repL_eval S args.toList)⟩
    have e : (us ++ args.toList.map a.eval).toArray = us.toArray ++ args.map a.eval ++ #[] := by apply Array.ext'; simp
    simp only [execOp, ho, resolve, hfv, Deferred.ofValue, Sem.run_bind, Sem.run_pure, Result.andThen_ok, invoke, run_callFunc hf hb hn, e]

/-- the call of a function with a contract -/
theorem call_exec (S : Sim okA w0 s m a w) {o : Oper} {fx : Operand} {args : Array Operand} {ats : Array TypeId} {f : FuncId} {cs as : List AVal} {t : AVal} (ho : o.op = .call ⟨.value fx, args, ats⟩) (hfx : cloQ (s.eval fx) (args.toList.map s.eval) = some (f, cs))
    (hs : snapL s cs = some as) (hd : Den P f as t) (hor : treeL cs = true ∨ t.flatT = true) :
    ∃ vs : Array Value, (∀ w' : World, (execOp a.eval o).run P w' = .ok (.enter f vs) w') ∧
      Calls P f vs w fun e w' => ∃ v, e = .returned v ∧ RepV (envOf okA w0.new s.heap s.gen m w') t v ∧ Below w.heap.size w w' := by
  obtain ⟨⟨fn, hf, hb, hn⟩, htt, hden⟩ := hd
  obtain ⟨us, hfv, hrep⟩ := cloQ_exec S ho hfx ⟨fn, hf, hb, hn⟩
  refine ⟨us.toArray, hfv, ?_⟩
  · by_cases ht : treeL cs = true
    · refine (hden w _ (fun b => (envOf okA w0.new s.heap s.gen m w).ok b) (fun b h => h.1) (S.globs.tree fun b h => ⟨h, rfl⟩) (snapL_sound S (fun b h => h) true (fun h => by simp at h) hs (fun _ => ht) hrep)).mono ?_
      rintro e w' ⟨v, rfl, hr, hbel⟩
      refine ⟨v, rfl, repV_tree (E := treeEnv w' _) (E' := envOf okA w0.new s.heap s.gen m w') (fun b hb => ⟨?_, rfl⟩) t v htt hr, hbel⟩
      rcases hb with hb | hb
      · exact ⟨Nat.lt_of_lt_of_le hb.1 hbel.size, hb.2.1, hb.2.2⟩
      · refine ⟨hb.2, .inr (.inl (Nat.le_trans S.below.size hb.1)), fun β blk hβ hm => ?_⟩
        obtain ⟨_, ⟨arr, T, hh, _⟩, _⟩ := (S.blks β blk hβ).real b hm
        have := heap_lt hh
        omega
    · have hfl := hor.resolve_left ht
      refine (hden w _ (fun b => b < w.heap.size) (fun b h => h) (S.globs.tree fun b h => ⟨h.1, rfl⟩) (snapL_sound S (fun b h => h.1) false (fun _ β blk b hβ hm => by obtain ⟨_, ⟨arr, T, hh, _⟩, _⟩ := (S.blks β blk hβ).real b hm; exact heap_lt hh) hs (fun h => by simp at h) hrep)).mono ?_
      rintro e w' ⟨v, rfl, hr, hbel⟩
      exact ⟨v, rfl, flatT_rep hfl hr, hbel⟩

theorem aeff_sound (S : Sim okA w0 s m a w) {o : Oper} {s' : ASt} (h : aeff P s o = some s') : Effects P okA w0 o a w s' := by
  obtain ⟨dst, op, type, pos, after, guard⟩ := o
  unfold aeff at h
  dsimp only at h
  split at h
  · rename_i t d
    unfold aalloc at h
    split at h
    case h_2 => simp at h
    rename_i i hti
    obtain ⟨v, w', m', hr, hS⟩ := alloc_sound S hti h
    exact .inl ⟨v, w', m', by simp only [execOp, Sem.run_bind, hr, Result.andThen_ok, Sem.run_pure], hS⟩
  · rename_i t x d
    unfold abox at h
    split at h
    case h_2 => simp at h
    rename_i i hti
    split at h
    case h_2 => simp at h
    rename_i vs hvs
    obtain ⟨v, w', m', hr, hS⟩ := box_sound (P := P) (t := t) S (S.eval x) hvs h
    exact .inl ⟨v, w', m', by simp only [execOp, Sem.run_bind, hr, Result.andThen_ok, Sem.run_pure], hS⟩
  · rename_i t l c d
    obtain ⟨v, w', m', hr, hS⟩ := makeSlice_sound S (S.eval l) (S.eval c) h
    exact .inl ⟨v, w', m', by simp only [execOp, Sem.run_bind, hr, Result.andThen_ok, Sem.run_pure], hS⟩
  · rename_i t len parts d
    obtain ⟨v, w', m', hr, hS⟩ := buildSlice_sound S h
    exact .inl ⟨v, w', m', by simp only [execOp, Sem.run_bind, hr, Result.andThen_ok, Sem.run_pure], hS⟩
  · rename_i t x v
    obtain ⟨w', hr, hS⟩ := store_sound S (S.eval x) (S.eval v) h
    exact .inr ⟨w', m, by simp only [execOp, Sem.run_bind, hr, Result.andThen_ok, Sem.run_pure], rfl, hS⟩
  · rename_i args ats d
    split at h
    case h_2 => simp at h
    rename_i x y t u hx hu
    split at h
    case h_2 => simp at h
    split at h
    case isFalse => simp at h
    rename_i htu
    subst htu
    obtain ⟨v, w', m', hr, hS⟩ := append_sound (ty := type) S (S.eval x) (S.eval y) h
    have ha : args.map a.eval = #[a.eval x, a.eval y] := by apply Array.ext'; simp [hx]
    have hats : ats = #[t, t] := by apply Array.ext'; simpa using hu
    refine .inl ⟨v, w', m', ?_, hS⟩
    rw [exec_builtin rfl]
    simp only [builtin, ha, hats, Sem.run_bind, hr, Result.andThen_ok, Sem.run_pure]
  · rename_i args ats d
    split at h
    case h_2 => simp at h
    rename_i x y t u hx hu
    obtain ⟨v, w', hr, hS⟩ := copy_sound (ty := type) (u := u) S (S.eval x) (S.eval y) h
    have ha : args.map a.eval = #[a.eval x, a.eval y] := by apply Array.ext'; simp [hx]
    have hats : ats = #[t, u] := by apply Array.ext'; simpa using hu
    refine .inl ⟨v, w', m, ?_, hS⟩
    rw [exec_builtin rfl]
    simp only [builtin, ha, hats, Sem.run_bind, hr, Result.andThen_ok, Sem.run_pure]
  · simp at h
end
end Go.Own
