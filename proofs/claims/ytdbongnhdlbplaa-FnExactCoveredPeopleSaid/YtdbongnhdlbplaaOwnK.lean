/-
  OWN WORK, generic over any program: 'awp' is sound; a contract from a walk over abstract states.
-/
import Derived.Test.YtdbongnhdlbplaaOwnJ
namespace Go.Own
open Go Go.RowKit

section
variable {P : Program} {okA : Nat → Prop} {w0 : World}

theorem astep_cases {dr : Bool} {o : Oper} {s : ASt} {K : ASt → Prop} (h : astep P dr o s K) :
    (∃ fx args ats f cs as t s', o.op = .call ⟨.value fx, args, ats⟩ ∧ s.eval fx = .clo f cs ∧ snapL s (args.toList.map s.eval ++ cs) = some as ∧ Den P f as t ∧
      (treeL (args.toList.map s.eval ++ cs) = true ∨ t.flatT = true) ∧ s.put o.dst t = some s' ∧ K s') ∨
    (isEff o = true ∧ ∃ s', aeff P s o = some s' ∧ K s') ∨
    (isEff o = false ∧ ∃ v s', avalue P s o = some v ∧ s.put o.dst v = some s' ∧ K s') := by
  unfold astep at h
  split at h
  · rename_i fx args ats ho
    split at h
    · rename_i f cs hf
      split at h
      · rename_i as h1
        obtain ⟨t, h2, h4, s', h5, h6⟩ := h
        exact .inl ⟨fx, args, ats, f, cs, as, t, s', ho, hf, h1, h2, h4, h5, h6⟩
      · exact h.elim
    · exact h.elim
  · split at h
    · rename_i he
      split at h
      · exact .inr (.inl ⟨he, _, ‹_›, h⟩)
      · exact h.elim
    · rename_i he
      split at h
      · split at h
        · exact .inr (.inr ⟨by simpa using he, _, _, ‹_›, ‹_›, h⟩)
        · exact h.elim
      · exact h.elim

theorem astep_wp {s : ASt} {m : Nat → Option Nat} {a : Act} {w : World} (S : Sim okA w0 s m a w) {dr : Bool} {o : Oper} {K : ASt → Prop} (h : astep P dr o s K)
    {next : Act → World → Prop} {Q : Exit → Act → World → Prop} (hK : ∀ s' m' a' w', Sim okA w0 s' m' a' w' → K s' → next a' w') : o.wp P a w next Q := by
  unfold Oper.wp
  rcases astep_cases h with ⟨fx, args, ats, f, cs, as, t, s', ho, hf, h1, h2, h4, h5, h6⟩ | ⟨_, s', he, hk⟩ | ⟨_, v, s', hv, hp, hk⟩
  · obtain ⟨vs, hrun, hc⟩ := call_exec S ho hf h1 h2 h4
    rw [hrun w]
    refine hc.mono ?_
    rintro e w' ⟨v, rfl, hr, hb⟩
    exact hK s' m _ _ ((S.world hb).putv h5 hr) h6
  · rcases aeff_sound S he with ⟨v, w', m', hr, hS⟩ | ⟨w', m', hr, hd, hS⟩
    · rw [hr]; exact hK s' m' _ _ hS hk
    · rw [hr]
      show next (a.put o.dst undef) w'
      rw [hd]
      exact hK s' m' _ _ hS hk
  · obtain ⟨u, hu, hrun⟩ := avalue_sound S hv
    rw [hrun w fun b _ => rfl]
    exact hK s' m _ _ (S.putv hp hu) hk

theorem yielded_of {s : ASt} {m : Nat → Option Nat} {a : Act} {w : World} (S : Sim okA w0 s m a w) {ops : Array Oper} {j d : Nat} (hd : (ops[j]?).bind (·.dst) = some d) (hn : d < s.n) {x : Bool}
    (hx : s.tmp d = .flat (.bool x)) : yielded ops a.tmps j = some x ∧ a.tmps.getD d undef = .bool x := by
  have h1 := S.tmps d
  rw [hx] at h1
  have hlt : d < a.tmps.size := by rw [S.size]; exact hn
  have h2 : a.tmps[d]? = some (.bool x) := by
    rw [Array.getElem?_eq_getElem hlt]
    have := h1.2
    simp only [Array.getD_eq_getD_getElem?, Array.getElem?_eq_getElem hlt, Option.getD_some] at this
    rw [this]
  exact ⟨by simp [yielded, hd, h2], h1.2⟩

theorem guard_cases {s : ASt} {m : Nat → Option Nat} {a : Act} {w : World} (S : Sim okA w0 s m a w) {ops : Array Oper} {o : Oper} {j d : Nat} {want : Bool} (hg : o.guard = some (j, want)) (hd : (ops[j]?).bind (·.dst) = some d) (hn : d < s.n)
    {dr : Bool} {K : ASt → Prop} (h : guardP P dr o K s d want) :
    (Region.wanted o (yielded ops a.tmps) = true ∧ ∃ s', Sim okA w0 s' m a w ∧ astep P dr o s' K) ∨ (Region.wanted o (yielded ops a.tmps) = false ∧ ∃ s', Sim okA w0 s' m a w ∧ skipP s' o.dst K) := by
  unfold guardP at h
  split at h
  · rename_i x hx
    obtain ⟨hy, hv⟩ := yielded_of S hd hn hx
    have hw : Region.wanted o (yielded ops a.tmps) = (x == want) := by
      simp only [Region.wanted, hg, hy]
      cases x <;> cases want <;> rfl
    by_cases e : x = want
    · refine .inl ⟨by rw [hw, e]; simp, _, S.refine ?_, h.1 e⟩
      rw [hv, e]; exact ⟨rfl, rfl⟩
    · have e2 : x = !want := by cases x <;> cases want <;> simp_all
      refine .inr ⟨by rw [hw, e2]; cases want <;> rfl, _, S.refine ?_, h.2 e2⟩
      rw [hv, e2]; exact ⟨rfl, rfl⟩
  · rename_i hx
    have h1 := S.tmps d
    rw [hx] at h1
    obtain ⟨vs, e1, e2⟩ := h1
    simp only [RepL] at e2
    subst e2
    have hlt : d < a.tmps.size := by rw [S.size]; exact hn
    have h2 : a.tmps[d]? = some (.tuple #[]) := by
      rw [Array.getElem?_eq_getElem hlt]
      simp only [Array.getD_eq_getD_getElem?, Array.getElem?_eq_getElem hlt, Option.getD_some] at e1
      rw [e1]
    refine .inr ⟨?_, s, S, h⟩
    have hy : yielded ops a.tmps j = none := by simp [yielded, hd, h2]
    simp only [Region.wanted, hg, hy]
    rfl
  · exact h.elim

theorem aops_wp {ops : Array Oper} {K : ASt → Prop} {Q : Exit → Act → World → Prop} (hK : ∀ s' m' a' w', Sim okA w0 s' m' a' w' → K s' → Q .normal a' w') :
    ∀ (l : List Oper) (k : Nat) (s : ASt) (m : Nat → Option Nat) (a : Act) (w : World), (∀ j, l[j]? = ops[k + j]?) → Sim okA w0 s m a w → aops P false ops K l s → wpOps P ops Q (List.range' k l.length) a w
  | [], k, s, m, a, w, _, S, h => hK s m a w S h
  | o :: l, k, s, m, a, w, hl, S, h => by
    have h0 : ops[k]? = some o := by simpa using (hl 0).symm
    have hl' : ∀ j, l[j]? = ops[k + 1 + j]? := fun j => by have := hl (j + 1); simpa [Nat.add_assoc, Nat.add_comm 1 j] using this
    simp only [List.length_cons, List.range'_succ, wpOps, h0]
    simp only [aops] at h
    split at h
    · rename_i hg
      have : Region.wanted o (yielded ops a.tmps) = true := by simp [Region.wanted, hg]
      rw [if_pos this]
      exact .inl (astep_wp S h fun s' m' a' w' S' h' => aops_wp hK l (k + 1) s' m' a' w' hl' S' h')
    · rename_i j want hg
      split at h
      case h_2 => exact h.elim
      rename_i d hd
      rcases guard_cases S hg hd h.1 h.2 with ⟨hw, s1, S1, h1⟩ | ⟨hw, s1, S1, h1⟩
      · rw [if_pos hw]
        exact .inl (astep_wp S1 h1 fun s' m' a' w' S' h' => aops_wp hK l (k + 1) s' m' a' w' hl' S' h')
      · rw [if_neg (by simp [hw])]
        unfold skipP at h1
        split at h1
        · rename_i s2 hp
          exact aops_wp hK l (k + 1) s2 m _ w hl' (S1.putv (v := undef) hp ⟨[], rfl, rfl⟩) h1
        · exact h1.elim

theorem live_tmp (s : ASt) (τ : Nat → AVal) (v : AVal) : live { s with tmp := τ } v = live s v := by cases v <;> rfl
theorem aload_tmp (s : ASt) (τ : Nat → AVal) (t : TypeId) (v : AVal) : aload P { s with tmp := τ } t v = aload P s t v := by cases v <;> rfl
theorem szOk_tmp (s : ASt) (τ : Nat → AVal) (t : TypeId) (v : AVal) : szOk P { s with tmp := τ } t v = szOk P s t v := by cases v <;> rfl
theorem snap_tmp (τ : Nat → AVal) : ∀ (k : Nat) (s : ASt) (v : AVal), snap k { s with tmp := τ } v = snap k s v
  | 0, _, _ => rfl
  | k + 1, s, v => by
    have e : snap k { s with tmp := τ } = snap k s := funext fun v => snap_tmp τ k s v
    cases v <;> simp only [snap, blkOf, e]
theorem snapL_tmp (s : ASt) (τ : Nat → AVal) : ∀ l, snapL { s with tmp := τ } l = snapL s l
  | [] => rfl
  | a :: r => by simp only [snapL, snap_tmp, snapL_tmp s τ r]
theorem optI_tmp {s : ASt} {τ : Nat → AVal} {d : Nat} {x : Option Operand} (h : ∀ y, x = some y → ASt.eval { s with tmp := τ } y = s.eval y) : optI { s with tmp := τ } d x = optI s d x := by
  cases x with
  | none => rfl
  | some y => simp only [optI, h y rfl]
theorem abuild_tmp {s : ASt} {τ : Nat → AVal} {t : TypeId} {parts : List (Nat × Operand)} (h : ∀ p ∈ parts, ASt.eval { s with tmp := τ } p.2 = s.eval p.2) : abuild P { s with tmp := τ } t parts = abuild P s t parts := by
  have e : (parts.map fun p => (p.1, ASt.eval { s with tmp := τ } p.2)) = parts.map fun p => (p.1, s.eval p.2) := List.map_congr_left fun p hp => by rw [h p hp]
  unfold abuild
  rw [e]
theorem asliceV_tmp {s : ASt} {τ : Nat → AVal} {t : TypeId} {v : AVal} {lo hi mx : Option Operand} (h1 : ∀ y, lo = some y → ASt.eval { s with tmp := τ } y = s.eval y) (h2 : ∀ y, hi = some y → ASt.eval { s with tmp := τ } y = s.eval y)
    (h3 : ∀ y, mx = some y → ASt.eval { s with tmp := τ } y = s.eval y) : asliceV P { s with tmp := τ } t v lo hi mx = asliceV P s t v lo hi mx := by
  unfold asliceV
  cases mx with
  | none => simp only [optI_tmp h1, optI_tmp h2]
  | some m => simp only [optI_tmp h1, optI_tmp h2, optI_tmp (x := some m) h3]
theorem mapEval_tmp {s : ASt} {τ : Nat → AVal} {l : List Operand} (h : ∀ y ∈ l, ASt.eval { s with tmp := τ } y = s.eval y) : l.map (ASt.eval { s with tmp := τ }) = l.map s.eval := List.map_congr_left h
theorem avalue_congr {s : ASt} {τ : Nat → AVal} (o : Oper) (h : ∀ x ∈ o.op.operands, ASt.eval { s with tmp := τ } x = s.eval x) : avalue P { s with tmp := τ } o = avalue P s o := by
  obtain ⟨dst, op, type, pos, after, guard⟩ := o
  cases op <;> simp only [Op.operands] at h
  case call c =>
    obtain ⟨callee, args, ats⟩ := c
    cases callee with
    | builtin b =>
      have e : args.toList.map (ASt.eval { s with tmp := τ }) = args.toList.map s.eval := mapEval_tmp fun y hy => h y (by simpa [Call.operands] using hy)
      have e1 : ∀ x, args.toList = [x] → ASt.eval { s with tmp := τ } x = s.eval x := fun x hx => h x (by simp [Call.operands, ← Array.mem_toList_iff, hx])
      cases b <;> simp only [avalue, e]
      all_goals
        first
        | rfl
        | (split
           · rename_i x hx
             first | (rw [e1 x hx, live_tmp]; done) | (rw [e1 x hx]; done)
           · rfl)
    | value f => simp only [avalue]
    | invoke r m => simp only [avalue]
  case makeFunc fn first captured =>
    cases fn <;> try (simp only [avalue]; done)
    obtain ⟨l⟩ := first
    cases l with
    | nil =>
      simp only [avalue]
      rw [mapEval_tmp fun y hy => h y (by simpa using hy)]
    | cons x xs => simp only [avalue]
  case build t ps => simp only [avalue]; rw [abuild_tmp fun p hp => h p.2 (by simpa using ⟨p.1, by simpa using hp⟩)]
  case slice t x lo hi mx =>
    have hx := h x (by simp)
    have h1 : ∀ y, lo = some y → ASt.eval { s with tmp := τ } y = s.eval y := fun y e => h y (by subst e; simp)
    have h2 : ∀ y, hi = some y → ASt.eval { s with tmp := τ } y = s.eval y := fun y e => h y (by subst e; simp)
    have h3 : ∀ y, mx = some y → ASt.eval { s with tmp := τ } y = s.eval y := fun y e => h y (by subst e; simp)
    have e1 : lo.toList.map (ASt.eval { s with tmp := τ }) = lo.toList.map s.eval := mapEval_tmp fun y hy => h1 y (by simpa using hy)
    have e2 : hi.toList.map (ASt.eval { s with tmp := τ }) = hi.toList.map s.eval := mapEval_tmp fun y hy => h2 y (by simpa using hy)
    simp only [avalue, hx, e1, e2, live_tmp, szOk_tmp, asliceV_tmp h1 h2 h3]
  all_goals (first | (simp only [avalue]; done) | (simp_all [avalue, live_tmp, aload_tmp]; done))

/-- what an operation of a region yields -/
def AOut (P : Program) (s : ASt) (o : Oper) (v : AVal) : Prop :=
  (∃ fx args ats f cs as, o.op = .call ⟨.value fx, args, ats⟩ ∧ s.eval fx = .clo f cs ∧ snapL s (args.toList.map s.eval ++ cs) = some as ∧ Den P f as v ∧ (treeL (args.toList.map s.eval ++ cs) = true ∨ v.flatT = true)) ∨
  (isEff o = false ∧ avalue P s o = some v)
def AYields (P : Program) (ops : Array Oper) (s : ASt) (o : Oper) (v : AVal) : Prop :=
  match o.guard with
  | none => AOut P s o v
  | some (j, want) => ∃ d, (ops[j]?).bind (·.dst) = some d ∧ d < s.n ∧ ((s.tmp d = .flat (.bool want) ∧ AOut P s o v) ∨ ((s.tmp d = .flat (.bool !want) ∨ s.tmp d = .tup []) ∧ v = .tup []))
def ASt.putD (s : ASt) (dst : Option Tmp) (v : AVal) : ASt := match dst with
  | some d => s.set d v
  | none => s
def okD (s : ASt) (dst : Option Tmp) : Prop := ∀ d, dst = some d → d < s.n
theorem putD_put {s : ASt} {dst : Option Tmp} {v : AVal} (h : okD s dst) : s.put dst v = some (s.putD dst v) := by
  cases dst with
  | none => rfl
  | some d => simp only [ASt.put, if_pos (h d rfl), ASt.putD]
theorem put_putD {s s' : ASt} {dst : Option Tmp} {v : AVal} (h : s.put dst v = some s') : okD s dst ∧ s' = s.putD dst v := by
  cases dst with
  | none => exact ⟨fun _ h => (nomatch h), (Option.some.inj h).symm⟩
  | some d =>
    simp only [ASt.put] at h
    split at h
    · rename_i hd
      exact ⟨fun _ e => Option.some.inj e ▸ hd, (Option.some.inj h).symm⟩
    · simp at h
theorem putD_n (s : ASt) (dst : Option Tmp) (v : AVal) : (s.putD dst v).n = s.n := by cases dst <;> rfl
theorem okD_putD {s : ASt} {dst dst' : Option Tmp} {v : AVal} : okD (s.putD dst' v) dst ↔ okD s dst := by unfold okD; rw [putD_n]
theorem putD_comm (s : ASt) {x y : Option Tmp} (v u : AVal) (h : ∀ d, x = some d → y ≠ some d) : (s.putD x v).putD y u = (s.putD y u).putD x v := by
  cases x with
  | none => rfl
  | some d =>
    cases y with
    | none => rfl
    | some e =>
      have hne : d ≠ e := fun he => h d rfl (he ▸ rfl)
      simp only [ASt.putD, ASt.set]
      congr 1
      funext t
      simp only [upd]
      by_cases h1 : t = d
      · have : t ≠ e := fun h => hne (h1 ▸ h)
        simp [h1, hne]
      · simp [h1]
theorem aout_put {ops : Array Oper} (s : ASt) (o : Oper) (dst : Option Tmp) (u v : AVal) (h : ∀ d, dst = some d → d ∉ o.looksAt ops) : AOut P (s.putD dst u) o v ↔ AOut P s o v := by
  cases dst with
  | none => rfl
  | some d =>
    have hev : ∀ x ∈ o.op.operands, ASt.eval { s with tmp := upd s.tmp d u } x = s.eval x := fun x hx => by
      cases x with
      | tmp t =>
        have hne : t ≠ d := fun e => h d rfl (List.mem_append_left _ (List.mem_filterMap.2 ⟨.tmp t, by simpa using hx, by simp [e]⟩))
        simp [ASt.eval, upd, hne]
      | const v => rfl
      | global g => rfl
      | func f => rfl
    show AOut P { s with tmp := upd s.tmp d u } o v ↔ AOut P s o v
    unfold AOut
    rw [avalue_congr o hev]
    refine or_congr ?_ Iff.rfl
    refine exists_congr fun fx => exists_congr fun args => exists_congr fun ats => exists_congr fun f => exists_congr fun cs => exists_congr fun as => and_congr_right fun ho => ?_
    have e1 : ASt.eval { s with tmp := upd s.tmp d u } fx = s.eval fx := hev fx (by rw [ho]; simp [Op.operands, Call.operands])
    have e2 : args.toList.map (ASt.eval { s with tmp := upd s.tmp d u }) = args.toList.map s.eval := mapEval_tmp fun y hy => hev y (by rw [ho]; simp [Op.operands, Call.operands]; exact .inr (by simpa using hy))
    rw [e1, e2, snapL_tmp]
theorem ayields_put {ops : Array Oper} (s : ASt) (o : Oper) (dst : Option Tmp) (u v : AVal) (h : ∀ d, dst = some d → d ∉ o.looksAt ops) : AYields P ops (s.putD dst u) o v ↔ AYields P ops s o v := by
  unfold AYields
  split
  · exact aout_put s o dst u v h
  · rename_i j want hg
    refine exists_congr fun d => and_congr_right fun hd => ?_
    have e : (s.putD dst u).tmp d = s.tmp d := by
      cases dst with
      | none => rfl
      | some d' =>
        have hne : d ≠ d' := fun e => h d' rfl (by subst e; simp [Oper.looksAt, hg, hd])
        simp [ASt.putD, ASt.set, upd, hne]
    rw [putD_n, e, aout_put s o dst u v h]
def aqOp (P : Program) (ops : Array Oper) (i : Nat) (K : ASt → Prop) (s : ASt) : Prop :=
  match ops[i]? with
  | none => K s
  | some o => ∃ v, AYields P ops s o v ∧ okD s o.dst ∧ K (s.putD o.dst v)
theorem aqOp_mono {ops : Array Oper} {i : Nat} {s : ASt} {K K' : ASt → Prop} (h : ∀ s, K s → K' s) (hh : aqOp P ops i K s) : aqOp P ops i K' s := by
  unfold aqOp at *
  split
  · rename_i ho; simp only [ho] at hh; exact h _ hh
  · rename_i o ho
    simp only [ho] at hh
    obtain ⟨v, h1, h2, h3⟩ := hh
    exact ⟨v, h1, h2, h _ h3⟩
/-- whatever order is picked -/
def anyA (P : Program) (md : Region.Mode) (ops : Array Oper) (Q : ASt → Prop) : Nat → Array Bool → ASt → Prop
  | 0, listed, s => Region.ready md ops listed = [] ∧ Q s
  | fuel + 1, listed, s =>
    (Region.ready md ops listed = [] → Q s) ∧
    ∀ i ∈ Region.ready md ops listed, aqOp P ops i (anyA P md ops Q fuel (listed.setIfInBounds i true)) s
theorem aqOp_put {ops : Array Oper} {j : Nat} {oi oj : Oper} {v : AVal} (hj : ops[j]? = some oj) (hap : oi.apart ops oj = true) {K : ASt → Prop} {s : ASt}
    (hy : AYields P ops s oi v) (hk : okD s oi.dst) (h : aqOp P ops j K (s.putD oi.dst v)) : aqOp P ops j (fun s' => (AYields P ops s' oi v ∧ okD s' oi.dst) ∧ K (s'.putD oi.dst v)) s := by
  obtain ⟨h1, h2, h3⟩ := Oper.apart_spec hap
  unfold aqOp at *
  simp only [hj] at *
  obtain ⟨u, hu, ho, hK⟩ := h
  rw [ayields_put s oj oi.dst v u h1] at hu
  rw [okD_putD] at ho
  rw [putD_comm s v u h2] at hK
  exact ⟨u, hu, ho, ⟨(ayields_put s oi oj.dst u v h3).2 hy, okD_putD.2 hk⟩, hK⟩
theorem anyA_first {ops : Array Oper} {md : Region.Mode} {Q : ASt → Prop} {i : Nat} {oi : Oper} {v : AVal} (hi : ops[i]? = some oi) :
    ∀ (fuel : Nat) (listed : Array Bool) (s : ASt),
      (∀ j oj, ops[j]? = some oj → j ≠ i → listed.getD j true = false → (∀ e ∈ oj.after, Region.binds md e = true → e.on ≠ i) → oi.apart ops oj = true) →
      i ∈ Region.ready md ops listed → AYields P ops s oi v → okD s oi.dst →
      anyA P md ops Q fuel (listed.setIfInBounds i true) (s.putD oi.dst v) → anyA P md ops Q (fuel + 1) listed s := by
  intro fuel
  induction fuel with
  | zero =>
    intro listed s _ hr hy hk H
    refine ⟨fun h => (by rw [h] at hr; cases hr), fun j hj => ?_⟩
    by_cases hji : j = i
    · subst hji; unfold aqOp; simp only [hi]; exact ⟨v, hy, hk, H⟩
    · have := ready_mono hj hji
      rw [H.1] at this
      cases this
  | succ fuel ih =>
    intro listed s hfree hr hy hk H
    refine ⟨fun h => (by rw [h] at hr; cases hr), fun j hj => ?_⟩
    by_cases hji : j = i
    · subst hji; unfold aqOp; simp only [hi]; exact ⟨v, hy, hk, H⟩
    · have h1 := H.2 j (ready_mono hj hji)
      obtain ⟨hjun, oj, hoj, hall⟩ := mem_ready.1 hj
      have hnot : ∀ e ∈ oj.after, Region.binds md e = true → e.on ≠ i := fun e he hb heq => by
        have h1 := hall e he hb
        have h0 := (mem_ready.1 hr).1
        rw [heq] at h1
        rcases Nat.lt_or_ge i listed.size with h' | h'
        · simp [h'] at h0 h1; rw [h0] at h1; cases h1
        · simp [Array.getElem?_eq_none h'] at h1
      have h2 := aqOp_put hoj (hfree j oj hoj hji hjun hnot) hy hk h1
      refine aqOp_mono (fun s' h3 => ih (listed.setIfInBounds j true) s' (fun k ok hk hki hun hno => ?_) (ready_mono hr (Ne.symm hji)) h3.1.1 h3.1.2 ?_) h2
      · refine hfree k ok hk hki ?_ hno
        by_cases hjk : j = k
        · subst hjk; exact hjun
        · rw [getD_set_ne true hjk] at hun; exact hun
      · rw [Array.setIfInBounds_comm _ _ hji]
        exact h3.2
def lexA (P : Program) (ops : Array Oper) (Q : ASt → Prop) : List Oper → ASt → Prop
  | [], s => Q s
  | o :: l, s => ∃ v, AYields P ops s o v ∧ okD s o.dst ∧ lexA P ops Q l (s.putD o.dst v)
theorem anyA_lex {ops : Array Oper} {md : Region.Mode} {Q : ASt → Prop} : ∀ (l : List Oper) (k : Nat) (listed : Array Bool) (s : ASt), (∀ j, l[j]? = ops[k + j]?) →
    Region.lexFrom md ops l.length k listed = true → lexA P ops Q l s → anyA P md ops Q l.length listed s
  | [], _, _, _, _, hB, h => ⟨by simpa [Region.lexFrom] using hB, h⟩
  | o :: l, k, listed, s, hl, hB, ⟨v, hy, hk, h⟩ => by
    have h0 : ops[k]? = some o := by simpa using (hl 0).symm
    simp only [List.length_cons, Region.lexFrom, Bool.and_eq_true] at hB
    obtain ⟨⟨hr, hf⟩, hB'⟩ := hB
    exact anyA_first h0 l.length listed s (Region.free_spec h0 hf) (by simpa using hr) hy hk
      (anyA_lex l (k + 1) _ _ (fun j => by have := hl (j + 1); simpa [Nat.add_assoc, Nat.add_comm 1 j] using this) hB' h)
theorem set_same {s : ASt} {d : Nat} {v : AVal} (h : s.tmp d = v) : s.set d v = s := by
  have : upd s.tmp d v = s.tmp := by
    funext t
    rw [upd]
    split
    · rename_i e; rw [e, h]
    · rfl
  unfold ASt.set
  rw [this]
theorem lexA_of_aops {ops : Array Oper} {Q : ASt → Prop} : ∀ (l : List Oper) (s : ASt), (∀ o ∈ l, quietOp o = true) → aops P true ops Q l s → lexA P ops Q l s
  | [], _, _, h => h
  | o :: l, s, hq, h => by
    have hq' : ∀ o' ∈ l, quietOp o' = true := fun o' ho' => hq o' (by simp [ho'])
    have step : astep P true o s (aops P true ops Q l) → ∃ v, AOut P s o v ∧ okD s o.dst ∧ lexA P ops Q l (s.putD o.dst v) := fun h => by
      rcases astep_cases h with ⟨fx, args, ats, f, cs, as, t, s', ho, hf, h1, h2, h4, h5, h6⟩ | ⟨he, _⟩ | ⟨he, v, s', hv, hp, hk⟩
      · obtain ⟨q1, rfl⟩ := put_putD h5
        exact ⟨t, .inl ⟨fx, args, ats, f, cs, as, ho, hf, h1, h2, h4⟩, q1, lexA_of_aops l _ hq' h6⟩
      · have := hq o (by simp)
        simp [quietOp, he] at this
      · obtain ⟨q1, rfl⟩ := put_putD hp
        exact ⟨v, .inr ⟨he, hv⟩, q1, lexA_of_aops l _ hq' hk⟩
    have skip : skipP s o.dst (aops P true ops Q l) → okD s o.dst ∧ lexA P ops Q l (s.putD o.dst (.tup [])) := fun h => by
      unfold skipP at h
      split at h
      · rename_i s' hp
        obtain ⟨q1, rfl⟩ := put_putD hp
        exact ⟨q1, lexA_of_aops l _ hq' h⟩
      · exact h.elim
    simp only [aops] at h
    unfold lexA AYields
    split at h
    · rename_i hg
      simp only [hg]
      exact step h
    · rename_i j want hg
      simp only [hg]
      split at h
      case h_2 => exact h.elim
      rename_i d hd
      obtain ⟨hn, h⟩ := h
      unfold guardP at h
      split at h
      · rename_i x hx
        by_cases e : x = want
        · subst e
          have h' := h.1 rfl
          rw [set_same hx] at h'
          obtain ⟨v, h1, h2, h3⟩ := step h'
          exact ⟨v, ⟨d, hd, hn, .inl ⟨hx, h1⟩⟩, h2, h3⟩
        · have e2 : x = !want := by cases x <;> cases want <;> simp_all
          subst e2
          have h' := h.2 rfl
          rw [set_same hx] at h'
          obtain ⟨h2, h3⟩ := skip h'
          exact ⟨.tup [], ⟨d, hd, hn, .inr ⟨.inl hx, rfl⟩⟩, h2, h3⟩
      · rename_i hx
        obtain ⟨h2, h3⟩ := skip h
        exact ⟨.tup [], ⟨d, hd, hn, .inr ⟨.inr hx, rfl⟩⟩, h2, h3⟩
      · exact h.elim
theorem aout_wp {s : ASt} {m : Nat → Option Nat} {a : Act} {w : World} (S : Sim okA w0 s m a w) {o : Oper} {v : AVal} (h : AOut P s o v) (hk : okD s o.dst)
    {next : Act → World → Prop} {Q : Exit → Act → World → Prop} (hK : ∀ m' a' w', Sim okA w0 (s.putD o.dst v) m' a' w' → next a' w') : o.wp P a w next Q := by
  unfold Oper.wp
  rcases h with ⟨fx, args, ats, f, cs, as, ho, hf, h1, h2, h4⟩ | ⟨_, hv⟩
  · obtain ⟨vs, hrun, hc⟩ := call_exec S ho hf h1 h2 h4
    rw [hrun w]
    refine hc.mono ?_
    rintro e w' ⟨v, rfl, hr, hb⟩
    exact hK m _ _ ((S.world hb).putv (putD_put hk) hr)
  · obtain ⟨u, hu, hrun⟩ := avalue_sound S hv
    rw [hrun w fun b _ => rfl]
    exact hK m _ _ (S.putv (putD_put hk) hu)
theorem aqOp_sound {ops : Array Oper} {s : ASt} {m : Nat → Option Nat} {a : Act} {w : World} (S : Sim okA w0 s m a w) {i : Nat} {K : ASt → Prop} (h : aqOp P ops i K s)
    {K' : Act → World → Prop} {Q : Exit → Act → World → Prop} (hK : ∀ s' m' a' w', Sim okA w0 s' m' a' w' → K s' → K' a' w') : wpOp P ops Q i K' a w := by
  unfold aqOp at h
  unfold wpOp
  split
  · rename_i ho; simp only [ho] at h; exact hK _ _ _ _ S h
  · rename_i o ho
    simp only [ho] at h
    obtain ⟨v, hy, hk, h⟩ := h
    unfold AYields at hy
    split at hy
    · rename_i hg
      rw [if_pos (by simp [Region.wanted, hg])]
      exact .inl (aout_wp S hy hk fun m' a' w' S' => hK _ _ _ _ S' h)
    · rename_i j want hg
      obtain ⟨d, hd, hn, ⟨hx, hy⟩ | ⟨hx | hx, rfl⟩⟩ := hy
      · obtain ⟨hyl, _⟩ := yielded_of S hd hn hx
        rw [if_pos (by simp [Region.wanted, hg, hyl])]
        exact .inl (aout_wp S hy hk fun m' a' w' S' => hK _ _ _ _ S' h)
      · obtain ⟨hyl, _⟩ := yielded_of S hd hn hx
        rw [if_neg (by simp [Region.wanted, hg, hyl])]
        exact hK _ _ _ _ (S.putv (t := .tup []) (v := undef) (putD_put hk) ⟨[], rfl, rfl⟩) h
      · have h1 := S.tmps d
        rw [hx] at h1
        obtain ⟨vs, e1, e2⟩ := h1
        simp only [RepL] at e2
        subst e2
        have hlt : d < a.tmps.size := by rw [S.size]; exact hn
        have h2 : a.tmps[d]? = some (.tuple #[]) := by
          rw [Array.getElem?_eq_getElem hlt]
          simp only [Array.getD_eq_getD_getElem?, Array.getElem?_eq_getElem hlt, Option.getD_some] at e1
          rw [e1]
        have hyl : yielded ops a.tmps j = none := by simp [yielded, hd, h2]
        rw [if_neg (by simp [Region.wanted, hg, hyl])]
        exact hK _ _ _ _ (S.putv (t := .tup []) (v := undef) (putD_put hk) ⟨[], rfl, rfl⟩) h
theorem anyA_sound {ops : Array Oper} {md : Region.Mode} {Q : ASt → Prop} {Q' : Exit → Act → World → Prop} (hQ : ∀ s m a w, Sim okA w0 s m a w → Q s → Q' .normal a w) :
    ∀ (fuel : Nat) (listed : Array Bool) (s : ASt) (m : Nat → Option Nat) (a : Act) (w : World), Sim okA w0 s m a w → anyA P md ops Q fuel listed s → wpAny P md ops Q' fuel listed a w
  | 0, _, _, _, _, _, S, h => ⟨h.1, hQ _ _ _ _ S h.2⟩
  | fuel + 1, _, _, _, _, _, S, h => ⟨fun h0 => hQ _ _ _ _ S (h.1 h0), fun i hi => aqOp_sound S (h.2 i hi) fun s' m' a' w' S' h' => anyA_sound hQ fuel _ s' m' a' w' S' h'⟩

theorem Sim.weak {s s' : ASt} {m : Nat → Option Nat} {a : Act} {w : World} (S : Sim okA w0 s m a w) (h : Weak s s') : ∃ m', Sim okA w0 s' m' a w := by
  let m' : Nat → Option Nat := fun β => match s.heap β with
    | some _ => m β
    | none => none
  have back : ∀ β blk b, s'.heap β = some blk → m' β = some b → s.heap β = some blk ∧ m β = some b := fun β blk b hβ hm => by
    simp only [m'] at hm
    rcases h.heap β blk hβ with h1 | ⟨h1, _⟩
    · rw [h1] at hm; exact ⟨h1, hm⟩
    · rw [h1] at hm; simp at hm
  have hle : EnvLe (envOf okA w0.heap.size s.heap s.gen m w) (envOf okA w0.heap.size s'.heap s'.gen m' w) := by
    refine ⟨fun b ⟨h1, h2, h3⟩ => ⟨⟨h1, h2, fun β blk hβ hm => ?_⟩, rfl⟩, h.gen, fun β g r sz hg hl => ⟨?_, fun b k _ hr => hr⟩⟩
    · obtain ⟨q1, q2⟩ := back β blk b hβ hm
      exact h3 β blk q1 q2
    · simp only [envOf] at hl hg ⊢
      split at hl
      · rename_i blk hβ
        split at hl
        · rename_i hgg
          rcases h.heap β blk hβ with h1 | ⟨h1, _, h2, _⟩
          · simp only [m', h1] at hl
            simp only [h1, hgg, if_true]
            exact hl
          · omega
        · simp at hl
      · simp at hl
  refine ⟨m', by rw [h.n]; exact S.size, S.defers, fun t => ?_, fun β blk hβ => ?_, fun β β' blk blk' b h1 h2 hm hm' => ?_, S.below, S.okA⟩
  · rcases h.tmp t with e | e | ⟨β, blk, e1, e2, e3, e4, e5⟩ | ⟨β, g, off, n, blk, e1, e2, e3, e4, e5, e6, e7⟩
    · rw [e]; exact repV_mono hle _ _ (S.tmps t)
    · rw [e]; trivial
    · have hr := S.tmps t
      rw [e1] at hr
      obtain ⟨ad, hv⟩ := hr
      rw [e4, hv]
      have hb : blk.gen < s'.gen := by
        rcases h.heap β blk e3 with h1 | ⟨_, _, _, h2⟩
        · rw [e2] at h1; simp at h1
        · exact h2
      exact ⟨hb, rfl, fun r sz e => ⟨ad, 0, rfl, Nat.le_refl _, Nat.zero_le _, .inl rfl⟩⟩
    · have hr := S.tmps t
      rw [e1] at hr
      obtain ⟨_, _, hp⟩ := hr
      obtain ⟨ad, c, hv, hn, hcm, hcc⟩ := hp _ _ (loc_of e2 e3)
      rw [e6, hv]
      refine ⟨ad, c, rfl, hn, hcm, ?_⟩
      by_cases h0 : c = 0
      · exact .inl (by rw [show n = 0 by omega]; simp)
      · obtain ⟨b, hm, rfl, hroom⟩ := hcc.resolve_left h0
        obtain ⟨hB, _, hC⟩ := (S.blks β blk e2).real b hm
        have hseg := repC_take (n * blk.size) (repC_drop off hC)
        rw [Nat.zero_add] at hseg
        refine .inr ⟨b, off, rfl, ⟨lt_of_room hroom, .inr hB, fun β' blk' hβ' hm' => ?_⟩, repC_mono hle rfl _ _ hseg⟩
        obtain ⟨q1, q2⟩ := back β' blk' b hβ' hm'
        have := S.inj β' β blk' blk b q1 e2 q2 hm
        rw [this, e4] at hβ'
        simp at hβ'
  · rcases h.heap β blk hβ with h1 | ⟨h1, h2, h3, h4⟩
    · exact (S.blks β blk h1).mono h.gen (by simp [m', h1]) hle fun b _ => rfl
    · exact ⟨h4, fun _ => h2, fun b hb => by simp [m', h1] at hb⟩
  · obtain ⟨q1, q2⟩ := back β blk b h1 hm
    obtain ⟨q3, q4⟩ := back β' blk' b h2 hm'
    exact S.inj β β' blk blk' b q1 q3 q2 q4

def Ex.toExit : Ex → Exit
  | .normal => .normal
  | .exit id => .exit id
  | .ret => .ret

def PostOf (okA : Nat → Prop) (w0 : World) (Q : Ex → ASt → Prop) : Exit → Act → World → Prop := fun e a w => ∃ x s m, e = x.toExit ∧ Q x s ∧ Sim okA w0 s m a w

theorem awp_sound (hmix : P.follows .mixedOrders = true) : ∀ (c : Code) (_ : drawsOk c = true) (Q : Ex → ASt → Prop) (s : ASt), awp P c Q s → ∀ (m : Nat → Option Nat) (a : Act) (w : World), Sim okA w0 s m a w → c.wp P (PostOf okA w0 Q) a w
  | .skip, _, Q, s, h, m, a, w, S => wp_skip ⟨.normal, s, m, rfl, h, S⟩
  | .exit id, _, Q, s, h, m, a, w, S => wp_exit ⟨.exit id, s, m, rfl, h, S⟩
  | .ret, _, Q, s, h, m, a, w, S => wp_ret ⟨.ret, s, m, rfl, h, S⟩
  | .region id ops d, hd, Q, s, h, m, a, w, S => by
    cases d with
    | false =>
      refine wp_region ?_
      have := aops_wp (P := P) (ops := ops) (Q := PostOf okA w0 Q) (K := Q .normal) (fun s' m' a' w' S' h' => ⟨.normal, s', m', rfl, h', S'⟩) ops.toList 0 s m a w (by simp) S h
      simpa [List.range_eq_range'] using this
    | true =>
      have hok : drawOk ops = true := by simpa [drawsOk] using hd
      simp only [drawOk, Bool.and_eq_true] at hok
      have hq : ∀ o ∈ ops.toList, quietOp o = true := fun o ho => by
        have := hok.2
        rw [Array.all_eq_true_iff_forall_mem] at this
        exact this o (by simpa using ho)
      have hlex := hok.1
      simp only [Region.lexB, Bool.and_eq_true] at hlex
      refine wp_region_any hmix (anyA_sound (okA := okA) (w0 := w0) (Q := Q .normal) (fun s' m' a' w' S' h' => ⟨.normal, s', m', rfl, h', S'⟩) _ _ s m a _ (S.world ⟨rfl, rfl, rfl, Nat.le_refl _, fun _ _ => rfl⟩) ?_)
      have := anyA_lex (P := P) (md := .any) (Q := Q .normal) ops.toList 0 (Array.replicate ops.size false) s (by simp) (by simpa using hlex.2) (lexA_of_aops ops.toList s hq h)
      simpa using this
  | .seq x y, hd, Q, s, h, m, a, w, S => by
    simp only [drawsOk, Bool.and_eq_true] at hd
    refine wp_seq (wp_mono (awp_sound hmix x hd.1 _ s h m a w S) ?_)
    rintro e a' w' ⟨ex, s', m', rfl, hq, S'⟩
    cases ex with
    | normal => exact awp_sound hmix y hd.2 Q s' hq m' a' w' S'
    | exit id => exact ⟨.exit id, s', m', rfl, hq, S'⟩
    | ret => exact ⟨.ret, s', m', rfl, hq, S'⟩
  | .cond c x y, hd, Q, s, h, m, a, w, S => by
    simp only [drawsOk, Bool.and_eq_true] at hd
    simp only [awp, condP] at h
    split at h
    · rename_i b hb
      have he := S.eval c
      rw [hb] at he
      refine wp_cond_split he.2 (fun hb => awp_sound hmix x hd.1 Q s (h.1 hb) m a w S) (fun hb => awp_sound hmix y hd.2 Q s (h.2 hb) m a w S)
    · exact h.elim
  | .block id c, hd, Q, s, h, m, a, w, S => by
    simp only [drawsOk] at hd
    refine wp_block (wp_mono (awp_sound hmix c hd _ s h m a w S) ?_)
    rintro e a' w' ⟨ex, s', m', rfl, hq, S'⟩
    cases ex with
    | normal => exact ⟨.normal, s', m', rfl, hq, S'⟩
    | ret => exact ⟨.ret, s', m', rfl, hq, S'⟩
    | exit i =>
      simp only [inBlockA] at hq
      show Exit.inBlock id _ (.exit i) a' w'
      simp only [Exit.inBlock]
      split at hq
      · rename_i hi; rw [if_pos hi]; exact ⟨.normal, s', m', rfl, hq, S'⟩
      · rename_i hi; rw [if_neg hi]; exact ⟨.exit i, s', m', rfl, hq, S'⟩
  | .loop c, hd, Q, s, h, m, a, w, S => by
    simp only [drawsOk] at hd
    obtain ⟨ι, I, μ, x, hwk, hround⟩ := h
    obtain ⟨m1, S1⟩ := S.weak hwk
    refine wp_loop_ghost (fun n a w => ∃ x m, μ x = n ∧ Sim okA w0 (I x) m a w) (μ x) ⟨x, m1, rfl, S1⟩ ?_
    rintro n a w ⟨y, m2, rfl, S2⟩
    refine wp_mono (awp_sound hmix c hd _ (I y) (hround y) m2 a w S2) ?_
    rintro e a' w' ⟨ex, s', m', rfl, hq, S'⟩
    cases ex with
    | normal =>
      obtain ⟨z, hw, hlt⟩ := hq
      obtain ⟨m3, S3⟩ := S'.weak hw
      exact ⟨μ z, hlt, z, m3, rfl, S3⟩
    | exit id => exact ⟨.exit id, s', m', rfl, hq, S'⟩
    | ret => exact ⟨.ret, s', m', rfl, hq, S'⟩
  | .rangeFunc .., _, _, _, h, _, _, _, _ => h.elim
  | .scope .., _, _, _, h, _, _, _, _ => h.elim
  | .label .., _, _, _, h, _, _, _, _ => h.elim
  | .goto .., _, _, _, h, _, _, _, _ => h.elim
  | .refuse .., _, _, _, h, _, _, _, _ => h.elim

mutual
theorem lens_rep {E : Env} : ∀ {t : AVal} {v : Value}, RepV E t v → t.tree = true → lens t
  | .lst cells n, _, ⟨a, c, _, h1, h2, h3⟩, ht => ⟨Nat.le_trans h1 h2, by
      rcases h3 with h3 | ⟨b, off, _, _, hc⟩
      · rw [h3]; trivial
      · exact lensC_rep hc (by simpa [AVal.tree] using ht)⟩
  | .agg cs, _, ⟨vs, _, hl⟩, ht => lensA_rep hl (by simpa [AVal.tree] using ht)
  | .tup cs, _, ⟨vs, _, hl⟩, ht => lensL_rep hl (by simpa [AVal.tree] using ht)
  | .iptr cells _, _, ⟨_, _, _, _, hc⟩, ht => lensC_rep hc (by simpa [AVal.tree] using ht)
  | .clo _ cs, _, ⟨vs, _, hl⟩, ht => lensL_rep hl (by simpa [AVal.tree] using ht)
  | .flat _, _, _, _ => trivial
  | .nl, _, _, _ => trivial
  | .own _ _ _ _, _, _, _ => trivial
  | .ptr _ _ _, _, _, _ => trivial
  | .dead, _, _, _ => trivial
theorem lensL_rep {E : Env} : ∀ {cs : List AVal} {vs : List Value}, RepL E cs vs → treeL cs = true → lensL cs
  | [], _, _, _ => trivial
  | c :: cs, _, ⟨v, r, _, hv, hl⟩, ht => by
    simp only [treeL, Bool.and_eq_true] at ht
    exact ⟨lens_rep hv ht.1, lensL_rep hl ht.2⟩
theorem lensA_rep {E : Env} : ∀ {cs : List AVal} {vs : List Value}, RepA E cs vs → treeL cs = true → lensL cs
  | [], _, _, _ => trivial
  | c :: cs, _, ⟨v, r, _, _, hv, hl⟩, ht => by
    simp only [treeL, Bool.and_eq_true] at ht
    exact ⟨lens_rep hv ht.1, lensA_rep hl ht.2⟩
theorem lensC_rep {E : Env} : ∀ {cs : List AVal} {b off : Nat}, RepC E cs b off → treeL cs = true → lensL cs
  | [], _, _, _, _ => trivial
  | c :: cs, _, _, ⟨⟨v, _, _, hv⟩, hl⟩, ht => by
    simp only [treeL, Bool.and_eq_true] at ht
    exact ⟨lens_rep hv ht.1, lensC_rep hl ht.2⟩
end

theorem ares_sound {s : ASt} {m : Nat → Option Nat} {a : Act} {w : World} (S : Sim okA w0 s m a w) : ∀ {rs : List ResultVar} {l : List AVal}, ares P s rs = some l →
    ∃ vs : List Value, RepL (envOf okA w0.heap.size s.heap s.gen m w) l vs ∧ (rs.mapM (fun r => match r with
      | .tmp t => pure (a.tmps.getD t undef)
      | .cell x t => do loadVar t (← asAddr (a.tmps.getD x undef)) : ResultVar → Sem Value)).run P w = .ok vs w
  | [], l, h => by simp [ares] at h; subst h; exact ⟨[], rfl, by simp⟩
  | .tmp t :: rs, l, h => by
    simp only [ares] at h
    split at h
    case h_2 => simp at h
    rename_i l' hl'
    simp only [Option.some.injEq] at h
    subst h
    obtain ⟨vs, hr, hrun⟩ := ares_sound S hl'
    exact ⟨_ :: vs, ⟨_, vs, rfl, S.tmps t, hr⟩, by simp only [List.mapM_cons, Sem.run_bind, Sem.run_pure, Result.andThen_ok, hrun]⟩
  | .cell x t :: rs, l, h => by
    simp only [ares] at h
    split at h
    case h_2 => simp at h
    rename_i v l' hv hl'
    simp only [Option.some.injEq] at h
    subst h
    obtain ⟨vs, hr, hrun⟩ := ares_sound S hl'
    obtain ⟨ad, he, u, hu, hload⟩ := S.load hv (S.tmps x)
    have hA : (asAddr (a.tmps.getD x undef)).run P w = .ok ad w := by rw [he]; rfl
    exact ⟨u :: vs, ⟨u, vs, rfl, hu, hr⟩, by simp only [List.mapM_cons, Sem.run_bind, hA, Sem.run_pure, Result.andThen_ok, hload w (fun b _ => rfl), hrun]⟩

theorem den_of_awp {f : FuncId} {fn : Func} {c : Code} {args : List AVal} {t : AVal} (hf : P.funcs[f]? = some fn) (hb : fn.body = some c) (hn : (fn.name == "runtime.NumGoroutine") = false)
    (ha : args.length ≤ fn.ntmps) (hta : treeL args = true) (ht : t.tree = true) (hmix : P.follows .mixedOrders = true) (hd : drawsOk c = true) (h : lensL args → awp P c (apost P fn t) (init fn.ntmps args)) : Den P f args t := by
  refine ⟨⟨fn, hf, by simp [hb], hn⟩, ht, fun w vs ok hok hrep => ?_⟩
  have hl := repL_length hrep
  have S : Sim ok w (init fn.ntmps args) (fun _ => none) { tmps := vs.toArray ++ Array.replicate (fn.ntmps - vs.toArray.size) undef, defers := [] } w := by
    refine ⟨?_, rfl, fun t => ?_, fun β blk h => by simp [init] at h, fun β β' blk blk' b h => by simp [init] at h, Below.refl _ _, hok⟩
    · simp [init]; omega
    · simp only [init]
      by_cases hlt : t < args.length
      · obtain ⟨v, hv, hr⟩ := repL_get hrep (i := t) (c := args[t]) (by simp [hlt])
        have e1 : args.getD t .dead = args[t] := by simp [List.getD, hlt]
        have e2 : (vs.toArray ++ Array.replicate (fn.ntmps - vs.toArray.size) undef).getD t undef = v := by
          have hlt' : t < vs.length := by omega
          rw [Array.getD_eq_getD_getElem?, Array.getElem?_append_left (by simpa using hlt')]
          simp [hv]
        rw [e1, e2]
        have hmem : args[t] ∈ args := List.getElem_mem hlt
        exact repV_tree (E := treeEnv w ok) (E' := envOf ok w.heap.size (fun _ => none) 0 (fun _ => none) w) (fun b hb => ⟨⟨hok b hb, .inl hb, fun β blk h => by simp at h⟩, rfl⟩) _ _ ((treeL_iff _).1 hta _ hmem) hr
      · have e1 : args.getD t .dead = .dead := by simp [List.getD, List.getElem?_eq_none (Nat.le_of_not_lt hlt)]
        rw [e1]
        trivial
  refine calls_of_wp hf hb (wp_mono (awp_sound hmix c hd _ _ (h (lensL_rep hrep hta)) _ _ _ S) ?_)
  rintro e a' w' ⟨x, s', m', rfl, hq, S'⟩
  have fin : (∃ r, ares P s' fn.results.toList = some r ∧ snap 6 s' (one r) = some t) → a'.defers = [] ∧ ∃ v, (results fn a'.tmps).run P w' = .ok v w' ∧
      ∃ v', Ending.returned v = .returned v' ∧ RepV (treeEnv w' fun b => ok b ∨ (w.heap.size ≤ b ∧ b < w'.heap.size)) t v' ∧ Below w.heap.size w w' := by
    rintro ⟨r, hr, hsn⟩
    obtain ⟨us, hrep', hrun⟩ := ares_sound S' hr
    have hone : ∃ v, (results fn a'.tmps).run P w' = .ok v w' ∧ RepV (envOf ok w.heap.size s'.heap s'.gen m' w') (one r) v := by
      have hm : (fn.results.mapM (fun r => match r with
          | .tmp t => pure (a'.tmps.getD t undef)
          | .cell x t => do loadVar t (← asAddr (a'.tmps.getD x undef)) : ResultVar → Sem Value)).run P w' = .ok us.toArray w' := by
        rw [Array.mapM_eq_mapM_toList]
        simp only [Sem.run_map, hrun, Result.andThen_ok]
      have hres : (results fn a'.tmps).run P w' = .ok (if h : us.toArray.size = 1 then us.toArray[0] else .tuple us.toArray) w' := by
        unfold results
        rw [Sem.run_bind]
        have hm' := hm
        erw [hm']
        rfl
      refine ⟨_, hres, ?_⟩
      have hlr := repL_length hrep'
      match r, us, hrep', hlr with
      | [], [], h, _ => exact ⟨[], rfl, h⟩
      | [x], [u], h, _ =>
        obtain ⟨v, r, e, hv, _⟩ := h
        simp only [List.cons.injEq] at e
        simpa [one, e.1] using hv
      | x :: y :: r, u :: v :: q, h, _ => exact ⟨u :: v :: q, by simp, h⟩
    obtain ⟨v, hv1, hv2⟩ := hone
    refine ⟨S'.defers, v, hv1, v, rfl, (snap_sound S' (fun b hb => ?_) false (fun _ b h1 h2 => .inr ⟨h1, h2⟩) 6 _ _ v hsn (fun h => by simp at h) hv2).1, S'.below⟩
    rcases hb.2.1 with h | h
    · exact .inl h
    · exact .inr ⟨h, hb.1⟩
  cases x with
  | normal => exact fin hq
  | ret => exact fin hq
  | exit id => exact hq.elim
end
end Go.Own
