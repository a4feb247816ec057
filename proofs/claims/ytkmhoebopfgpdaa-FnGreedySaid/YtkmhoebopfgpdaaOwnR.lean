/-
  OWN WORK, generic over any program: regions that draw their order: whatever is drawn, the text's order has told the end.
-/
import Derived.Test.YtkmhoebopfgpdaaOwnP
namespace Go.Own
open Go Go.RowKit
variable [GL]
set_option linter.unusedSectionVars false

section
variable {P : Program} {okA : Nat → Prop} {w0 : Base}

theorem upd_ne {α : Type} {f : Nat → α} {d t : Nat} {v : α} (h : some d ≠ some t) : upd f d v t = f t := if_neg fun e => h (by rw [e])
theorem aeffOp_dst {s s' : ASt} {o : Oper} (h : aeff P s o = some s') : (s'.n = s.n ∧ s'.gh = s.gh) ∧ okD s o.dst ∧ ∀ t, o.dst ≠ some t → s'.tmp t = s.tmp t := by
  obtain ⟨dst, op, type, pos, after, guard⟩ := o
  have new : ∀ {d sz : Nat} {cells : List AVal} {v : AVal}, s.new d sz cells v = some s' → (s'.n = s.n ∧ s'.gh = s.gh) ∧ okD s (some d) ∧ ∀ t, some d ≠ some t → s'.tmp t = s.tmp t := fun h => by
    obtain ⟨h1, rfl⟩ := new_eq h
    exact ⟨⟨rfl, rfl⟩, fun d' e => Option.some.inj e ▸ h1, fun t ht => upd_ne ht⟩
  unfold aeff at h
  dsimp only at h ⊢
  split at h
  · simp only [aalloc] at h
    split at h
    · exact new h
    · simp at h
  · simp only [abox] at h
    split at h
    · split at h
      · exact new h
      · simp at h
    · simp at h
  · unfold amakeSlice at h
    split at h
    · split at h
      · split at h
        · split at h
          · exact new h
          · simp at h
        · simp at h
      · simp at h
    · simp at h
  · unfold abuildSlice at h
    split at h
    · split at h
      · split at h
        · split at h
          · exact new h
          · simp at h
        · simp at h
      · simp at h
    · simp at h
  · unfold astore at h
    split at h
    · split at h
      · split at h
        · split at h
          · split at h
            · split at h
              · simp only [Option.some.injEq] at h
                subst h
                exact ⟨⟨rfl, rfl⟩, fun _ e => by simp at e, fun _ _ => rfl⟩
              · simp at h
            · simp at h
          · simp at h
        · simp at h
      · simp at h
    · simp at h
  · split at h
    case h_2 => simp at h
    split at h
    case h_2 => simp at h
    split at h
    case isFalse => simp at h
    unfold aappend at h
    split at h
    case h_2 => simp at h
    split at h
    case h_2 => simp at h
    split at h
    · simp at h
    split at h
    case h_2 => simp at h
    split at h
    · split at h
      · exact new h
      · simp at h
    · split at h
      · split at h
        · rename_i hk
          simp only [Option.some.injEq] at h
          subst h
          exact ⟨⟨rfl, rfl⟩, fun d' e => Option.some.inj e ▸ hk.2.2.2, fun t ht => upd_ne ht⟩
        · simp at h
      · simp at h
    · simp at h
  · split at h
    case h_2 => simp at h
    unfold acopy at h
    split at h
    case h_2 => simp at h
    split at h
    case h_2 => simp at h
    split at h
    case h_2 => simp at h
    split at h
    case h_2 => simp at h
    split at h
    case h_2 => simp at h
    split at h
    case isFalse => simp at h
    rename_i hk
    simp only [Option.some.injEq] at h
    subst h
    exact ⟨⟨rfl, rfl⟩, fun d' e => Option.some.inj e ▸ hk.2.2.2, fun t ht => upd_ne ht⟩
  · split at h
    case h_2 => simp at h
    unfold aclear at h
    split at h
    case h_2 => simp at h
    split at h
    case h_2 => simp at h
    split at h
    case h_2 => simp at h
    split at h
    case h_2 => simp at h
    split at h
    case isFalse => simp at h
    simp only [Option.some.injEq] at h
    subst h
    exact ⟨⟨rfl, rfl⟩, fun d' e => by simp at e, fun _ _ => rfl⟩
  · simp at h
theorem putD_tmp {s : ASt} {dst : Option Tmp} {v : AVal} {t : Nat} (h : dst ≠ some t) : (s.putD dst v).tmp t = s.tmp t := by
  cases dst with
  | none => rfl
  | some d => exact upd_ne h
theorem putD_gh (s : ASt) (dst : Option Tmp) (v : AVal) : (s.putD dst v).gh = s.gh := by cases dst <;> rfl
theorem aEff_dst {s s' : ASt} {o : Oper} (h : AEff P o s s') : (s'.n = s.n ∧ s'.gh = s.gh) ∧ okD s o.dst ∧ ∀ t, o.dst ≠ some t → s'.tmp t = s.tmp t := by
  rcases h with ⟨_, h⟩ | ⟨fx, args, ats, f, cs, ho, hf, xa, xa', t, q1, q2, q3, q4, q5, q6, s1, q7, rfl⟩
  · exact aeffOp_dst h
  · obtain ⟨h1, rfl⟩ := put_putD q7
    exact ⟨⟨putD_n _ _ _, putD_gh _ _ _⟩, h1, fun t ht => putD_tmp ht⟩
/-- new memory alone: nothing that was there has turned -/
theorem new_ext {s s' : ASt} {o : Oper} (hn : isNew o.op = true) (hf : freeD s o.dst) (h : AEff P o s s') : HExt s s'.heap := by
  have new : ∀ {d sz : Nat} {cells : List AVal} {v : AVal}, s.heap (s.gh.nm d) = none → s.new d sz cells v = some s' → HExt s s'.heap := fun hd h => by
    obtain ⟨h1, rfl⟩ := new_eq h
    intro β blk hβ
    have : β ≠ _ := fun e => by rw [e, hd] at hβ; simp at hβ
    simp [upd, this, hβ]
  rcases h with ⟨_, h⟩ | ⟨fx, args, ats, f, cs, ho, _⟩
  · obtain ⟨dst, op, type, pos, after, guard⟩ := o
    unfold aeff at h
    dsimp only at h hn hf
    split at h
    · simp only [aalloc] at h
      split at h
      · exact new hf h
      · simp at h
    · simp only [abox] at h
      split at h
      · split at h
        · exact new hf h
        · simp at h
      · simp at h
    · unfold amakeSlice at h
      split at h
      · split at h
        · split at h
          · split at h
            · exact new hf h
            · simp at h
          · simp at h
        · simp at h
      · simp at h
    · unfold abuildSlice at h
      split at h
      · split at h
        · split at h
          · split at h
            · exact new hf h
            · simp at h
          · simp at h
        · simp at h
      · simp at h
    · simp [isNew] at hn
    · simp [isNew] at hn
    · simp [isNew] at hn
    · simp [isNew] at hn
    · simp at h
  · rw [ho] at hn
    simp [isNew] at hn

theorem oldL_mem {s : ASt} {o : Oper} {h : Nat → Option Blk} : ∀ {H : List (Nat → Option Blk)}, OldL P s o H → h ∈ H → avalue P { s with heap := h } o = avalue P s o
  | [], _, hm => by simp at hm
  | x :: H, hl, hm => by
    rcases List.mem_cons.1 hm with e | e
    · subst e; exact hl.1
    · exact oldL_mem hl.2 e
theorem ayields_oldm {ops : Array Oper} {s : ASt} {o : Oper} {v : AVal} {H : List (Nat → Option Blk)} {hp : Nat → Option Blk} {g : Nat} (h : Old P H s o) (hm : hp ∈ H) (hy : AYields P ops s o v) : AYields P ops { s with heap := hp, gen := g } o v := by
  obtain ⟨n1, n2, n3⟩ := h
  have key : AOut P s o v → AOut P { s with heap := hp, gen := g } o v := fun hy => by
    rcases hy with ⟨fx, args, ats, f, cs, as, ho, _⟩ | ⟨h1, h2, h3⟩ | ⟨h1, _⟩
    · rw [ho] at n2; exact n2.elim
    · rw [← oldL_mem n3 hm] at h3
      exact .inr (.inl ⟨h1, h2, avalue_ext (s := { s with heap := hp }) (hp := hp) (g := g) (fun β blk hb => hb) h3⟩)
    · rw [n1] at h1; simp at h1
  unfold AYields at *
  split at hy
  · exact key hy
  · obtain ⟨d, hd, hn, hy⟩ := hy
    exact ⟨d, hd, hn, hy.imp (fun q => ⟨q.1, key q.2⟩) id⟩

/-! ### the text's order, as a plan -/
/-- behind an operation, by way of others -/
inductive AfterT (ops : Array Oper) : Nat → Nat → Prop
  | one {i j : Nat} (h : afterB ops i j = true) : AfterT ops i j
  | more {i k j : Nat} (h : afterB ops i k = true) (t : AfterT ops k j) : AfterT ops i j
theorem AfterT.trans {ops : Array Oper} {i k j : Nat} (h : AfterT ops i k) (t : AfterT ops k j) : AfterT ops i j := by
  induction h with
  | one h => exact .more h t
  | more h _ ih => exact .more h (ih t)
theorem afterR_T {ops : Array Oper} {k : Nat} : ∀ (d i : Nat), afterR ops k d i = true → AfterT ops i k
  | 0, _, h => by simp [afterR] at h
  | d + 1, i, h => by
    simp only [afterR, Bool.or_eq_true] at h
    rcases h with h | h
    · exact .one h
    · split at h
      · rename_i o ho
        simp only [List.any_eq_true, Bool.and_eq_true] at h
        obtain ⟨e, he, hb, hr⟩ := h
        have hab : afterB ops i e.on = true := by
          unfold afterB
          rw [ho]
          simp only [List.any_eq_true, Bool.and_eq_true, beq_iff_eq]
          exact ⟨e, he, rfl, hb⟩
        exact .more hab (afterR_T d e.on hr)
      · simp at h
theorem edges_T {ops : Array Oper} {k x : Nat} (h : x ∈ edgesOf ops k) : afterB ops k x = true := by
  unfold edgesOf at h
  split at h
  · rename_i o ho
    obtain ⟨e, he, rfl⟩ := List.mem_map.1 h
    obtain ⟨he, hb⟩ := List.mem_filter.1 he
    unfold afterB
    rw [ho]
    simp only [List.any_eq_true, Bool.and_eq_true, beq_iff_eq]
    exact ⟨e, he, rfl, hb⟩
  · simp at h
theorem ancs_T {ops : Array Oper} {k : Nat} : ∀ (n : Nat) (L : List Nat), (∀ x ∈ L, AfterT ops k x) → ∀ x ∈ ancs ops n L, AfterT ops k x
  | 0, L, h => h
  | n + 1, L, h => by
    unfold ancs
    refine ancs_T n _ fun x hx => ?_
    cases hc : L.contains n with
    | false => rw [hc] at hx; exact h x hx
    | true =>
      rw [hc] at hx
      rcases List.mem_append.1 hx with hx | hx
      · exact (h n (by simpa using hc)).trans (.one (edges_T hx))
      · exact h x hx
theorem afterA_T {ops : Array Oper} {i k : Nat} (h : afterA ops i k = true) : AfterT ops k i :=
  ancs_T k _ (fun x hx => .one (edges_T hx)) i (by simpa [afterA] using h)
structure Plan (P : Program) (ops : Array Oper) (s0 sf : ASt) where
  st : Nat → ASt
  eff : Nat → Bool
  st0 : st 0 = s0
  stn : st ops.size = sf
  quiet : ∀ i o, ops[i]? = some o → eff i = false → ∃ v, AYields P ops (st i) o v ∧ okD (st i) o.dst ∧ st (i + 1) = (st i).putD o.dst v ∧
    (Skip ops (st i) o v ∨ heapless o.op = true ∨ NoH P (st i) o ∨ (∀ j, j < i → eff j = true → AfterT ops i j) ∨ ∀ k, k ≤ i → AYields P ops { st i with heap := (st k).heap, gen := (st k).gen } o v)
  wrote : ∀ i o, ops[i]? = some o → eff i = true → GOn ops (st i) o ∧ AEff P o (st i) (st (i + 1)) ∧ (∀ j, j < i → eff j = true → AfterT ops i j) ∧
    ((isNew o.op = true ∧ freeD (st i) o.dst) ∨ ∀ j o', j < i → ops[j]? = some o' → eff j = false → heapless o'.op = false → afterA ops j i = false → noOver ops j i = true ∧ ReY P ops o' (st (i + 1)))

/-- a plan for the operations from the k-th on, behind a number of operations of which those in 'E' wrote -/
def StepOk (P : Program) (ops : Array Oper) (r : Nat) (E : List Nat) (H : List (Nat → Option Blk)) (o : Oper) (s : ASt) (eff : Bool) (s' : ASt) : Prop :=
  (eff = false ∧ ∃ v, AYields P ops s o v ∧ okD s o.dst ∧ s' = s.putD o.dst v ∧ (Skip ops s o v ∨ heapless o.op = true ∨ NoH P s o ∨ afterAll ops r E = true ∨ Old P H s o)) ∨
  (eff = true ∧ GOn ops s o ∧ AEff P o s s' ∧ afterAll ops r E = true ∧ ((isNew o.op = true ∧ freeD s o.dst) ∨ RechL P ops r E s' ops.toList 0))
inductive Tr (P : Program) (ops : Array Oper) : List Oper → List Nat → List (Nat → Option Blk) → ASt → List (Bool × ASt) → ASt → Prop
  | nil {E H s} : Tr P ops [] E H s [] s
  | cons {o l E H s eff s' tr sf} (h : StepOk P ops l.length E H o s eff s') (t : Tr P ops l (if eff then l.length :: E else E) (if eff then s.heap :: H else H) s' tr sf) : Tr P ops (o :: l) E H s ((eff, s) :: tr) sf

theorem step_of_astep {ops : Array Oper} {r : Nat} {E : List Nat} {H : List (Nat → Option Blk)} {o : Oper} {s : ASt} {K : Bool → ASt → Prop} (hg : GOn ops s o) (h : astep P false o s fun eff s' => drawC P (some (E, H)) ops r o eff s s' ∧ K eff s') :
    ∃ eff s', StepOk P ops r E H o s eff s' ∧ K eff s' := by
  rcases astep_cases h with ⟨v, s', h1, h2, h3, h4⟩ | ⟨s', h1, h3, h4⟩ | ⟨h1, _⟩
  · obtain ⟨q1, rfl⟩ := put_putD h2
    refine ⟨false, _, .inl ⟨rfl, v, ?_, q1, rfl, ?_⟩, h4⟩
    · unfold AYields
      rcases hg with hg | ⟨j, want, d, hg, hd, hn, ht⟩
      · rw [hg]; exact h1
      · rw [hg]; exact ⟨d, hd, hn, .inl ⟨ht, h1⟩⟩
    · simp only [drawC, Bool.or_eq_true] at h3
      rcases h3 with (h3 | h3) | h3 | h3
      · exact .inr (.inl h3)
      · exact .inr (.inr (.inr (.inl h3)))
      · exact .inr (.inr (.inl h3))
      · exact .inr (.inr (.inr (.inr h3)))
  · refine ⟨true, s', .inr ⟨rfl, hg, h1, ?_⟩, h4⟩
    simp only [drawC] at h3
    refine ⟨h3.1, ?_⟩
    have h5 := h3.2
    split at h5
    · rename_i hn; exact .inl ⟨hn, h5⟩
    · exact .inr h5
  · exact absurd h1 (by simp)
theorem trace_of_aops {ops : Array Oper} {Q : ASt → Prop} : ∀ (l : List Oper) (E : List Nat) (H : List (Nat → Option Blk)) (s : ASt), aops P (some (E, H)) ops Q l s → ∃ tr sf, Tr P ops l E H s tr sf ∧ Q sf
  | [], E, H, s, h => ⟨[], s, .nil, h⟩
  | o :: l, E, H, s, h => by
    have next : ∀ {eff : Bool}, nextD (some (E, H)) l.length eff s = some (if eff then l.length :: E else E, if eff then s.heap :: H else H) := fun {eff} => by cases eff <;> rfl
    have go : GOn ops s o → astep P false o s (fun eff s' => drawC P (some (E, H)) ops l.length o eff s s' ∧ aops P (nextD (some (E, H)) l.length eff s) ops Q l s') → ∃ tr sf, Tr P ops (o :: l) E H s tr sf ∧ Q sf := fun hg h => by
      obtain ⟨eff, s', h1, h2⟩ := step_of_astep hg h
      rw [next] at h2
      obtain ⟨tr, sf, h3, h4⟩ := trace_of_aops l _ _ s' h2
      exact ⟨_, sf, .cons h1 h3, h4⟩
    have skip : ∀ {j d : Nat} {want : Bool}, o.guard = some (j, want) → (ops[j]?).bind (·.dst) = some d → d < s.n → (s.tmp d = .flat (.bool !want) ∨ s.tmp d = .tup []) → skipP s o.dst (aops P (some (E, H)) ops Q l) → ∃ tr sf, Tr P ops (o :: l) E H s tr sf ∧ Q sf := fun {j d want} hg hd hn ht h => by
      unfold skipP at h
      split at h
      · rename_i s' hp
        obtain ⟨q1, rfl⟩ := put_putD hp
        obtain ⟨tr, sf, h3, h4⟩ := trace_of_aops l E H _ h
        have hs : Skip ops s o (.tup []) := ⟨j, want, d, hg, hd, hn, ht, rfl⟩
        exact ⟨_, sf, .cons (eff := false) (.inl ⟨rfl, .tup [], skip_yields hs, q1, rfl, .inl hs⟩) h3, h4⟩
      · exact h.elim
    simp only [aops] at h
    split at h
    · rename_i hg
      exact go (.inl hg) h
    · rename_i j want hg
      split at h
      case h_2 => exact h.elim
      rename_i d hd
      obtain ⟨hn, h⟩ := h
      unfold guardP at h
      split at h
      · rename_i x hx
        by_cases e : x = want
        · subst e
          have h' := h.1 rfl
          rw [set_same hx] at h'
          exact go (.inr ⟨j, x, d, hg, hd, hn, hx⟩) h'
        · have e2 : x = !want := by cases x <;> cases want <;> simp_all
          subst e2
          have h' := h.2 rfl
          rw [set_same hx] at h'
          exact skip hg hd hn (.inl hx) h'
      · rename_i hx
        exact skip hg hd hn (.inr hx) h
      · exact h.elim

def stOf : List (Bool × ASt) → ASt → Nat → ASt
  | [], sf, _ => sf
  | ev :: _, _, 0 => ev.2
  | _ :: tr, sf, i + 1 => stOf tr sf i
def effOf (tr : List (Bool × ASt)) (i : Nat) : Bool := match tr[i]? with | some ev => ev.1 | none => false
theorem tr_spec {ops : Array Oper} : ∀ {l : List Oper} {E : List Nat} {H : List (Nat → Option Blk)} {s : ASt} {tr : List (Bool × ASt)} {sf : ASt}, Tr P ops l E H s tr sf →
    stOf tr sf 0 = s ∧ stOf tr sf l.length = sf ∧ ∀ i o, l[i]? = some o → ∃ Ei, (∀ q, q ∈ Ei ↔ q ∈ E ∨ ∃ j, j < i ∧ effOf tr j = true ∧ q = l.length - (j + 1)) ∧
      ((Ei = E ∧ ∀ j, j < i → effOf tr j = false) ∨ ∃ j E', j < i ∧ effOf tr j = true ∧ (∀ k, j < k → k < i → effOf tr k = false) ∧ Ei = (l.length - (j + 1)) :: E') ∧
      ∃ Hi, (∀ h ∈ H, h ∈ Hi) ∧ (∀ k, k ≤ i → (stOf tr sf k).heap = (stOf tr sf i).heap ∨ (stOf tr sf k).heap ∈ Hi) ∧ StepOk P ops (l.length - (i + 1)) Ei Hi o (stOf tr sf i) (effOf tr i) (stOf tr sf (i + 1))
  | _, _, _, _, _, _, .nil => ⟨rfl, rfl, fun i o h => by simp at h⟩
  | _, _, _, _, _, _, .cons (o := o) (l := l) (E := E) (H := H) (s := s) (eff := eff) (s' := s') (tr := tr) (sf := sf) h t => by
    obtain ⟨h1, h2, h3⟩ := tr_spec t
    refine ⟨rfl, h2, fun i o' ho => ?_⟩
    cases i with
    | zero =>
      simp only [List.getElem?_cons_zero, Option.some.injEq] at ho
      subst ho
      refine ⟨E, fun q => ⟨.inl, fun hq => hq.elim id fun ⟨j, hj, _⟩ => absurd hj (Nat.not_lt_zero _)⟩, .inl ⟨rfl, fun j hj => absurd hj (Nat.not_lt_zero _)⟩, ?_⟩
      have e1 : stOf ((eff, s) :: tr) sf (0 + 1) = s' := h1
      rw [e1]
      refine ⟨H, fun _ h => h, fun k hk => .inl (by rw [show k = 0 by omega]), ?_⟩
      simpa [effOf, stOf] using h
    | succ i =>
      simp only [List.getElem?_cons_succ] at ho
      obtain ⟨Ei, q1, q3, Hi, p1, p2, q2⟩ := h3 i o' ho
      refine ⟨Ei, fun q => ?_, ?_, ?_⟩
      · rw [q1 q]
        constructor
        · rintro (hq | ⟨j, hj, he, hq⟩)
          · cases eff with
            | false => exact .inl hq
            | true =>
              rcases List.mem_cons.1 hq with hq | hq
              · exact .inr ⟨0, by omega, rfl, by simpa using hq⟩
              · exact .inl hq
          · exact .inr ⟨j + 1, by omega, by simpa [effOf] using he, by rw [hq]; simp⟩
        · rintro (hq | ⟨j, hj, he, hq⟩)
          · cases eff with
            | false => exact .inl hq
            | true => exact .inl (List.mem_cons_of_mem _ hq)
          · cases j with
            | zero =>
              have : eff = true := by simpa [effOf] using he
              subst this
              exact .inl (by rw [hq]; simp)
            | succ j => exact .inr ⟨j, by omega, by simpa [effOf] using he, by rw [hq]; simp⟩
      · rcases q3 with ⟨q3, q4⟩ | ⟨j, E', h1, h2, h3, h4⟩
        · cases eff with
          | false =>
            refine .inl ⟨q3, fun j hj => ?_⟩
            cases j with
            | zero => rfl
            | succ j => simpa [effOf] using q4 j (by omega)
          | true =>
            refine .inr ⟨0, E, by omega, rfl, fun k hk hki => ?_, by rw [q3]; simp⟩
            cases k with
            | zero => omega
            | succ k => simpa [effOf] using q4 k (by omega)
        · refine .inr ⟨j + 1, E', by omega, by simpa [effOf] using h2, fun k hk hki => ?_, by rw [h4]; simp⟩
          cases k with
          | zero => omega
          | succ k => simpa [effOf] using h3 k (by omega) (by omega)
      · have e : (o :: l).length - (i + 1 + 1) = l.length - (i + 1) := by simp
        rw [e]
        refine ⟨Hi, fun x hx => p1 x ?_, fun k hk => ?_, by simpa [effOf, stOf] using q2⟩
        · cases eff with
          | false => exact hx
          | true => exact List.mem_cons_of_mem _ hx
        · cases k with
          | succ k => exact p2 k (by omega)
          | zero =>
            show s.heap = (stOf tr sf i).heap ∨ s.heap ∈ Hi
            cases eff with
            | true => exact .inr (p1 _ (by simp))
            | false =>
              rcases h with ⟨_, v, _, _, e3, _⟩ | ⟨h, _⟩
              · have e4 : s.heap = (stOf tr sf 0).heap := by rw [h1, e3]; cases o.dst <;> rfl
                rw [e4]
                exact p2 0 (Nat.zero_le _)
              · simp at h
theorem rech_get {ops : Array Oper} {r : Nat} {E : List Nat} {s : ASt} : ∀ (l : List Oper) (k : Nat), RechL P ops r E s l k → ∀ i o, l[i]? = some o → needs ops r E (k + i) = true → noOver ops (k + i) (idxOf ops r) = true ∧ ReY P ops o s
  | [], _, _, i, o, h, _ => by simp at h
  | x :: l, k, h, 0, o, ho, hn => by
    simp only [List.getElem?_cons_zero, Option.some.injEq] at ho
    subst ho
    exact h.1 hn
  | x :: l, k, h, i + 1, o, ho, hn => by
    have e : k + (i + 1) = k + 1 + i := by omega
    rw [e] at hn ⊢
    exact rech_get l (k + 1) h.2 i o (by simpa using ho) hn
theorem plan_of_trace {ops : Array Oper} {s0 sf : ASt} {tr : List (Bool × ASt)} (h : Tr P ops ops.toList [] [] s0 tr sf) : Nonempty (Plan P ops s0 sf) := by
  obtain ⟨h1, h2, h3⟩ := tr_spec h
  have hlen : ops.toList.length = ops.size := by simp
  have idx : ∀ i, i < ops.size → idxOf ops (ops.toList.length - (i + 1)) = i := fun i hi => by unfold idxOf; rw [hlen]; omega
  have inb : ∀ {i o}, ops[i]? = some o → i < ops.size := fun h => (Array.getElem?_eq_some_iff.1 h).1
  have step : ∀ {i o Ei}, ops[i]? = some o → ((Ei = [] ∧ ∀ j, j < i → effOf tr j = false) ∨ ∃ j E', j < i ∧ effOf tr j = true ∧ (∀ k, j < k → k < i → effOf tr k = false) ∧ Ei = (ops.toList.length - (j + 1)) :: E') → afterAll ops (ops.toList.length - (i + 1)) Ei = true →
      (∀ j, j < i → effOf tr j = false) ∨ ∃ j, j < i ∧ effOf tr j = true ∧ (∀ k, j < k → k < i → effOf tr k = false) ∧ AfterT ops i j := fun {i o Ei} ho hE ha => by
    have hi := inb ho
    rcases hE with ⟨_, h⟩ | ⟨j, E', hj, he, hk, rfl⟩
    · exact .inl h
    · refine .inr ⟨j, hj, he, hk, ?_⟩
      have ha : afterA ops (idxOf ops (ops.toList.length - (j + 1))) (idxOf ops (ops.toList.length - (i + 1))) = true := ha
      rw [idx i hi, idx j (by omega)] at ha
      exact afterA_T ha
  have effs : ∀ i, ∀ o, ops[i]? = some o → effOf tr i = true → ∀ j, j < i → effOf tr j = true → AfterT ops i j := by
    intro i
    induction i using Nat.strongRecOn with
    | ind i ih =>
      intro o ho he j hj hej
      obtain ⟨Ei, q1, q3, Hi, p1, p2, q2⟩ := h3 i o (by simpa using ho)
      rcases q2 with ⟨e, _⟩ | ⟨_, a1, a2, a3, a4⟩
      · rw [he] at e; simp at e
      · rcases step ho q3 a3 with h | ⟨j0, h1, h2, h3', h4⟩
        · have := h j hj; rw [hej] at this; simp at this
        · by_cases e : j = j0
          · subst e; exact h4
          · have hlt : j < j0 := by
              rcases Nat.lt_or_ge j0 j with h | h
              · have := h3' j h hj; rw [hej] at this; simp at this
              · omega
            have hj0 : j0 < ops.size := by have := inb ho; omega
            exact h4.trans (ih j0 h1 _ (Array.getElem?_eq_getElem hj0) h2 j hlt hej)
  have all : ∀ {i o Ei}, ops[i]? = some o → ((Ei = [] ∧ ∀ j, j < i → effOf tr j = false) ∨ ∃ j E', j < i ∧ effOf tr j = true ∧ (∀ k, j < k → k < i → effOf tr k = false) ∧ Ei = (ops.toList.length - (j + 1)) :: E') → afterAll ops (ops.toList.length - (i + 1)) Ei = true → ∀ j, j < i → effOf tr j = true → AfterT ops i j := fun {i o Ei} ho hE ha j hj he => by
    rcases step ho hE ha with h | ⟨j0, h1, h2, h3', h4⟩
    · have := h j hj; rw [he] at this; simp at this
    · by_cases e : j = j0
      · subst e; exact h4
      · have hlt : j < j0 := by
          rcases Nat.lt_or_ge j0 j with h | h
          · have := h3' j h hj; rw [he] at this; simp at this
          · omega
        have hj0 : j0 < ops.size := by have := inb ho; omega
        exact h4.trans (effs j0 _ (Array.getElem?_eq_getElem hj0) h2 j hlt he)
  refine ⟨⟨stOf tr sf, effOf tr, h1, by rw [← hlen]; exact h2, fun i o ho he => ?_, fun i o ho he => ?_⟩⟩
  · obtain ⟨Ei, q1, q3, Hi, p1, p2, q2⟩ := h3 i o (by simpa using ho)
    rcases q2 with ⟨_, v, a1, a2, a3, a4⟩ | ⟨e, _⟩
    · refine ⟨v, a1, a2, a3, a4.imp id fun h => h.imp id fun h => h.imp id fun h => h.imp (fun h => all ho q3 h) fun h k hk => ?_⟩
      rcases p2 k hk with e | e
      · rw [e]
        exact ayields_ext (s := stOf tr sf i) (hp := (stOf tr sf i).heap) (g := (stOf tr sf k).gen) (fun _ _ h => h) a1
      · exact ayields_oldm h e a1
    · rw [he] at e; simp at e
  · obtain ⟨Ei, q1, q3, Hi, p1, p2, q2⟩ := h3 i o (by simpa using ho)
    rcases q2 with ⟨e, _⟩ | ⟨_, a1, a2, a3, a4⟩
    · rw [he] at e; simp at e
    · refine ⟨a1, a2, all ho q3 a3, a4.imp id fun hr j o' hj ho' he' hh ha => ?_⟩
      have hi := inb ho
      have := rech_get ops.toList 0 hr j o' (by simpa using ho') (by
        rw [Nat.zero_add]
        unfold needs
        rw [idx i hi, ha, ho']
        have hall : ∀ q ∈ Ei, ¬ idxOf ops q = j := by
          intro q hq e
          rcases (q1 q).1 hq with hq | ⟨j', hj', he'', rfl⟩
          · simp at hq
          · rw [idx j' (by omega)] at e
            subst e
            rw [he'] at he''; simp at he''
        simp [hj, hh]
        exact hall)
      rw [Nat.zero_add, idx i hi] at this
      exact this

/-! ### whatever is drawn -/
theorem drawOk_spec {ops : Array Oper} (h : drawOk ops = true) {i : Nat} {o : Oper} (ho : ops[i]? = some o) :
    (∀ e ∈ o.after, Region.binds .any e = true → e.on < i) ∧
    ∀ k d, k ≠ i → (ops[k]?).bind (·.dst) = some d → o.dst ≠ some d ∧ (d ∈ o.looksAt ops → (k < i ∧ afterB ops i k = true) ∨ (i < k ∧ afterB ops k i = true)) := by
  have hi := (Array.getElem?_eq_some_iff.1 ho).1
  unfold drawOk at h
  simp only [List.all_eq_true, List.mem_range] at h
  have h1 := h i hi
  rw [ho] at h1
  simp only [Bool.and_eq_true, List.all_eq_true, List.mem_range] at h1
  refine ⟨fun e he hb => ?_, fun k d hk hd => ?_⟩
  · have := h1.1 e (by simpa using he)
    simpa [hb] using this
  · have hkn : k < ops.size := by
      cases hk' : ops[k]? with
      | none => rw [hk'] at hd; simp at hd
      | some ok => exact (Array.getElem?_eq_some_iff.1 hk').1
    have := h1.2 k hkn
    rw [hd] at this
    simp only [Bool.or_eq_true, beq_iff_eq, hk, false_or, Bool.and_eq_true, bne_iff_ne, Bool.not_eq_true', decide_eq_true_eq] at this
    refine ⟨this.1, fun hl => ?_⟩
    rcases this.2 with (h2 | h2) | h2
    · rw [← Bool.not_eq_true, List.contains_iff_mem] at h2
      exact (h2 hl).elim
    · exact .inl h2
    · exact .inr h2
theorem afterB_spec {ops : Array Oper} {i k : Nat} {o : Oper} (ho : ops[i]? = some o) (h : afterB ops i k = true) : ∃ e ∈ o.after, Region.binds .any e = true ∧ e.on = k := by
  unfold afterB at h
  rw [ho] at h
  simp only [List.any_eq_true, Bool.and_eq_true, beq_iff_eq] at h
  obtain ⟨e, he, h1, h2⟩ := h
  exact ⟨e, by simpa using he, h2, h1⟩

theorem after_done {ops : Array Oper} {L : Nat → Bool} (closed : ∀ i o, ops[i]? = some o → L i = true → ∀ e ∈ o.after, Region.binds .any e = true → L e.on = true) {i j : Nat} (h : AfterT ops i j) : L i = true → L j = true := by
  have one : ∀ {i j}, afterB ops i j = true → L i = true → L j = true := fun {i j} h hL => by
    cases ho : ops[i]? with
    | none => unfold afterB at h; rw [ho] at h; simp at h
    | some o =>
      obtain ⟨e, he, hb, rfl⟩ := afterB_spec ho h
      exact closed i o ho hL e he hb
  induction h with
  | one h => exact one h
  | more h _ ih => exact fun hL => ih (one h hL)
theorem after_ready {ops : Array Oper} {L : Nat → Bool} (closed : ∀ i o, ops[i]? = some o → L i = true → ∀ e ∈ o.after, Region.binds .any e = true → L e.on = true) {i j : Nat} {o : Oper} (ho : ops[i]? = some o)
    (hr : ∀ e ∈ o.after, Region.binds .any e = true → L e.on = true) (h : AfterT ops i j) : L j = true := by
  have one : ∀ {j}, afterB ops i j = true → L j = true := fun {j} h => by
    obtain ⟨e, he, hb, rfl⟩ := afterB_spec ho h
    exact hr e he hb
  cases h with
  | one h => exact one h
  | more h t => exact after_done closed t (one h)
namespace Plan
variable {ops : Array Oper} {s0 sf : ASt} (pl : Plan P ops s0 sf)
theorem step_tmp {i : Nat} {o : Oper} (ho : ops[i]? = some o) : ((pl.st (i + 1)).n = (pl.st i).n ∧ (pl.st (i + 1)).gh = (pl.st i).gh) ∧ okD (pl.st i) o.dst ∧ ∀ t, o.dst ≠ some t → (pl.st (i + 1)).tmp t = (pl.st i).tmp t := by
  cases he : pl.eff i with
  | false =>
    obtain ⟨v, _, h2, h3, _⟩ := pl.quiet i o ho he
    exact ⟨by rw [h3]; exact ⟨putD_n _ _ _, putD_gh _ _ _⟩, h2, fun t ht => by rw [h3]; exact putD_tmp ht⟩
  | true =>
    obtain ⟨_, h2, _⟩ := pl.wrote i o ho he
    exact aEff_dst h2
theorem step_heap {i : Nat} {o : Oper} (ho : ops[i]? = some o) (he : pl.eff i = false) : (pl.st (i + 1)).heap = (pl.st i).heap ∧ (pl.st (i + 1)).gen = (pl.st i).gen := by
  obtain ⟨v, _, _, h3, _⟩ := pl.quiet i o ho he
  rw [h3]
  cases o.dst <;> exact ⟨rfl, rfl⟩
theorem n_eq : ∀ i, i ≤ ops.size → (pl.st i).n = s0.n
  | 0, _ => by rw [pl.st0]
  | i + 1, h => by
    have ho : ops[i]? = some ops[i] := Array.getElem?_eq_getElem (by omega)
    rw [(pl.step_tmp ho).1.1]
    exact n_eq i (by omega)
theorem gh_eq : ∀ i, i ≤ ops.size → (pl.st i).gh = s0.gh
  | 0, _ => by rw [pl.st0]
  | i + 1, h => by
    have ho : ops[i]? = some ops[i] := Array.getElem?_eq_getElem (by omega)
    rw [(pl.step_tmp ho).1.2]
    exact gh_eq i (by omega)
/-- what nobody between wrote -/
theorem tmp_from {t : Nat} {a : Nat} : ∀ b, a ≤ b → b ≤ ops.size → (∀ k o, a ≤ k → k < b → ops[k]? = some o → o.dst ≠ some t) → (pl.st b).tmp t = (pl.st a).tmp t
  | 0, h, _, _ => by rw [show a = 0 by omega]
  | b + 1, h, hb, hk => by
    by_cases e : a = b + 1
    · rw [e]
    · have ho : ops[b]? = some ops[b] := Array.getElem?_eq_getElem (by omega)
      rw [(pl.step_tmp ho).2.2 t (hk b _ (by omega) (by omega) ho)]
      exact tmp_from b (by omega) (by omega) fun k o h1 h2 => hk k o h1 (by omega)
theorem heap_from {a : Nat} : ∀ b, a ≤ b → b ≤ ops.size → (∀ k, a ≤ k → k < b → pl.eff k = false) → (pl.st b).heap = (pl.st a).heap ∧ (pl.st b).gen = (pl.st a).gen
  | 0, h, _, _ => by rw [show a = 0 by omega]; exact ⟨rfl, rfl⟩
  | b + 1, h, hb, hk => by
    by_cases e : a = b + 1
    · rw [e]; exact ⟨rfl, rfl⟩
    · have ho : ops[b]? = some ops[b] := Array.getElem?_eq_getElem (by omega)
      obtain ⟨h1, h2⟩ := pl.step_heap ho (hk b (by omega) (by omega))
      obtain ⟨h3, h4⟩ := heap_from b (by omega) (by omega) fun k h1 h2 => hk k h1 (by omega)
      exact ⟨h1.trans h3, h2.trans h4⟩
end Plan

/-- where a drawn order stands: 'L': what has been done; 'j': how far the writing has come -/
structure Inv {ops : Array Oper} {s0 sf : ASt} (pl : Plan P ops s0 sf) (L : Nat → Bool) (S : ASt) (j : Nat) : Prop where
  n : S.n = s0.n
  gh : S.gh = s0.gh
  le : j ≤ ops.size
  set : ∀ k o d, ops[k]? = some o → L k = true → o.dst = some d → S.tmp d = (pl.st (k + 1)).tmp d
  old : ∀ t, (∀ k o, ops[k]? = some o → L k = true → o.dst ≠ some t) → S.tmp t = s0.tmp t
  heap : S.heap = (pl.st j).heap
  gen : S.gen = (pl.st j).gen
  eff : ∀ k, k < ops.size → pl.eff k = true → (k < j ↔ L k = true)
  closed : ∀ i o, ops[i]? = some o → L i = true → ∀ e ∈ o.after, Region.binds .any e = true → L e.on = true

end
section
variable {P : Program} {okA : Nat → Prop} {w0 : Base} {ops : Array Oper} {s0 sf : ASt} {pl : Plan P ops s0 sf} (hok : drawOk ops = true)
include hok
theorem inv_view {L : Nat → Bool} {S : ASt} {j i : Nat} {o : Oper} (I : Inv pl L S j) (ho : ops[i]? = some o) (hL : L i = false) (hr : ∀ e ∈ o.after, Region.binds .any e = true → L e.on = true) :
    ∀ t ∈ o.looksAt ops, S.tmp t = (pl.st i).tmp t := by
  intro t ht
  have hi := (Array.getElem?_eq_some_iff.1 ho).1
  have apart : ∀ (k k' : Nat) (ok ok' : Oper), k ≠ k' → ops[k]? = some ok → ops[k']? = some ok' → ok.dst = some t → ok'.dst ≠ some t := fun k k' ok ok' hne hk hk' hd =>
    ((drawOk_spec hok hk').2 k t hne (by rw [hk]; exact hd)).1
  by_cases hex : ∃ (k : Nat) (ok : Oper), ops[k]? = some ok ∧ ok.dst = some t ∧ k < i
  · obtain ⟨k, ok, hk, hd, hki⟩ := hex
    have hkL : L k = true := by
      rcases ((drawOk_spec hok ho).2 k t (by omega) (by rw [hk]; exact hd)).2 ht with ⟨_, ha⟩ | ⟨h, _⟩
      · obtain ⟨e, he, hb, rfl⟩ := afterB_spec ho ha
        exact hr e he hb
      · omega
    rw [I.set k ok t hk hkL hd]
    exact (pl.tmp_from i (by omega) (by omega) fun k' ok' h1 h2 hk' => apart k k' ok ok' (by omega) hk hk' hd).symm
  · have h1 : (pl.st i).tmp t = s0.tmp t := (pl.tmp_from (a := 0) i (by omega) (by omega) fun k ok h1 h2 hk hd => hex ⟨k, ok, hk, hd, h2⟩).trans (by rw [pl.st0])
    rw [h1]
    refine I.old t fun k ok hk hkL hd => ?_
    have hki : ¬ k < i := fun h => hex ⟨k, ok, hk, hd, h⟩
    have hne : k ≠ i := fun e => by subst e; rw [hL] at hkL; simp at hkL
    rcases ((drawOk_spec hok ho).2 k t hne (by rw [hk]; exact hd)).2 ht with ⟨h, _⟩ | ⟨_, ha⟩
    · omega
    · obtain ⟨e, he, hb, he'⟩ := afterB_spec hk ha
      have := I.closed k ok hk hkL e he hb
      rw [he', hL] at this
      simp at this
/-- what an operation yields, it yields at every heap at which it may be asked -/
theorem inv_quiet {L : Nat → Bool} {S : ASt} {j i : Nat} {o : Oper} (I : Inv pl L S j) (ho : ops[i]? = some o) (hL : L i = false) (hr : ∀ e ∈ o.after, Region.binds .any e = true → L e.on = true) (he : pl.eff i = false) :
    ∃ v, AYields P ops S o v ∧ okD S o.dst ∧ (pl.st (i + 1)) = (pl.st i).putD o.dst v := by
  have hi := (Array.getElem?_eq_some_iff.1 ho).1
  obtain ⟨v, h1, h2, h3, h4⟩ := pl.quiet i o ho he
  have hn : S.n = (pl.st i).n := by rw [I.n, pl.n_eq i (by omega)]
  refine ⟨v, ?_, fun d hd => by rw [hn]; exact h2 d hd, h3⟩
  have stab : AYields P ops { pl.st i with heap := (pl.st j).heap, gen := (pl.st j).gen } o v := by
    rcases h4 with h4 | h4 | h4 | h4
    · obtain ⟨j', want, d, q1, q2, q3, q4, q5⟩ := h4
      exact skip_yields ⟨j', want, d, q1, q2, q3, q4, q5⟩
    · exact ayields_heapless h4 _ _ h1
    · exact ayields_noh h4 _ _ h1
    · have early : j ≤ i → AYields P ops { pl.st i with heap := (pl.st j).heap, gen := (pl.st j).gen } o v := fun hji => by
        rcases h4 with h4 | h4
        · have lower : ∀ k, k < i → pl.eff k = true → k < j := fun k hk hke =>
            (I.eff _ (by omega) hke).2 (after_ready I.closed ho hr (h4 k hk hke))
          obtain ⟨q1, q2⟩ := pl.heap_from i hji (by omega) fun k h1 h2 => by
            cases hke : pl.eff k with
            | false => rfl
            | true => have := lower k h2 hke; omega
          rw [← q1, ← q2]
          exact h1
        · exact h4 j hji
      by_cases hji : j ≤ i
      · exact early hji
      · -- what was written since
        by_cases hhl : heapless o.op = true
        · exact ayields_heapless hhl _ _ h1
        have up : ∀ k, i ≤ k → k ≤ j → AYields P ops { pl.st i with heap := (pl.st k).heap, gen := (pl.st k).gen } o v := by
          intro k
          induction k with
          | zero => intro h _; rw [show i = 0 by omega] at h1 ⊢; exact h1
          | succ k ih =>
            intro h hkj
            by_cases e : i = k + 1
            · rw [← e]; exact h1
            · have ihk := ih (by omega) (by omega)
              have hkn : k < ops.size := by have := I.le; omega
              have hok' : ops[k]? = some ops[k] := Array.getElem?_eq_getElem hkn
              cases hke : pl.eff k with
              | false =>
                obtain ⟨q1, q2⟩ := pl.step_heap hok' hke
                rw [q1, q2]
                exact ihk
              | true =>
                have hne : i ≠ k := fun e => by rw [e, hke] at he; simp at he
                obtain ⟨_, a2, _, a4⟩ := pl.wrote k _ hok' hke
                rcases a4 with ⟨b1, b2⟩ | b
                · exact ayields_ext (s := { pl.st i with heap := (pl.st k).heap, gen := (pl.st k).gen }) (fun β blk h => new_ext b1 b2 a2 β blk h) ihk
                · have hkL : L k = true := (I.eff k hkn hke).1 (by omega)
                  have hna : afterA ops i k = false := by
                    cases hab : afterA ops i k with
                    | false => rfl
                    | true =>
                      have := after_done I.closed (afterA_T hab) hkL
                      rw [hL] at this; simp at this
                  obtain ⟨c1, c2⟩ := b i o (by omega) ho he (by simpa using hhl) hna
                  -- asked again behind k
                  have view : ∀ t ∈ o.looksAt ops, (pl.st i).tmp t = (pl.st (k + 1)).tmp t := fun t ht => by
                    refine (pl.tmp_from (k + 1) (by omega) (by omega) fun x ox hx1 hx2 hox hd => ?_).symm
                    unfold noOver at c1
                    rw [List.all_eq_true] at c1
                    have := c1 x (List.mem_range.2 hx2)
                    rw [hox] at this
                    simp only [Option.bind_some, hd, Bool.or_eq_true, decide_eq_true_eq] at this
                    rcases this with h | h
                    · omega
                    · unfold looksB at h
                      rw [ho] at h
                      simp only [Bool.not_eq_true', ← Bool.not_eq_true] at h
                      exact h (by simpa using ht)
                  have hn' : (pl.st (k + 1)).n = (pl.st i).n := by rw [pl.n_eq _ (by omega), pl.n_eq _ (by omega)]
                  have hgh' : (pl.st (k + 1)).gh = (pl.st i).gh := by rw [pl.gh_eq _ (by omega), pl.gh_eq _ (by omega)]
                  unfold ReY at c2
                  split at c2
                  case h_2 => exact c2.elim
                  rename_i d hd
                  obtain ⟨e1, e2, e3⟩ := c2
                  have hdv : (pl.st (k + 1)).tmp d = v := by
                    rw [pl.tmp_from (a := i + 1) (k + 1) (by omega) (by omega) fun x ox hx1 hx2 hox hxd => ((drawOk_spec hok hox).2 i d (by omega) (by rw [ho]; exact hd)).1 hxd, h3, hd]
                    simp [ASt.putD, ASt.set, upd]
                  have hcall : ∀ fx args ats, o.op ≠ .call ⟨.value fx, args, ats⟩ := fun fx args ats e => by
                    rw [e] at e2; exact e2
                  have res : AYields P ops (pl.st (k + 1)) o v := by
                    unfold AYields
                    split at e3
                    · rename_i hg
                      rw [hdv] at e3
                      rw [hg]
                      exact .inr (.inl ⟨e1, hcall, e3⟩)
                    · rename_i j' want hg
                      rw [hg]
                      split at e3
                      case h_2 => exact e3.elim
                      rename_i g hgd
                      rw [hdv] at e3
                      exact ⟨g, hgd, e3.1, e3.2.imp (fun q => ⟨q.1, .inr (.inl ⟨e1, hcall, q.2⟩)⟩) id⟩
                  have := ayields_tmp (τ := (pl.st i).tmp) view res
                  have e : ({ pl.st (k + 1) with tmp := (pl.st i).tmp } : ASt) = { pl.st i with heap := (pl.st (k + 1)).heap, gen := (pl.st (k + 1)).gen } := by
                    simp only [ASt.mk.injEq, true_and]
                    exact ⟨hn', hgh'⟩
                  rw [e] at this
                  exact this
        exact up j (by omega) (Nat.le_refl _)
  have := ayields_tmp (τ := S.tmp) (s := { pl.st i with heap := (pl.st j).heap, gen := (pl.st j).gen }) (inv_view hok I ho hL hr) stab
  have e : ({ tmp := S.tmp, heap := (pl.st j).heap, gen := (pl.st j).gen, n := (pl.st i).n, gh := (pl.st i).gh } : ASt) = S := by
    rw [← I.heap, ← I.gen, ← hn, pl.gh_eq i (by omega), ← I.gh]
  rw [← e]
  exact this
theorem inv_wrote {L : Nat → Bool} {S : ASt} {j i : Nat} {o : Oper} (I : Inv pl L S j) (ho : ops[i]? = some o) (hL : L i = false) (hr : ∀ e ∈ o.after, Region.binds .any e = true → L e.on = true) (he : pl.eff i = true) :
    GOn ops S o ∧ AEff P o S { pl.st (i + 1) with tmp := putT o.dst S.tmp (pl.st (i + 1)) } ∧ j ≤ i ∧ ∀ k, j ≤ k → k < i → pl.eff k = false := by
  have hi := (Array.getElem?_eq_some_iff.1 ho).1
  obtain ⟨h1, h2, h3, _⟩ := pl.wrote i o ho he
  have lower : ∀ k, k < i → pl.eff k = true → k < j := fun k hk hke =>
    (I.eff _ (by omega) hke).2 (after_ready I.closed ho hr (h3 k hk hke))
  have hji : j ≤ i := by
    rcases Nat.lt_or_ge i j with h | h
    · have := (I.eff i hi he).1 h
      rw [hL] at this; simp at this
    · exact h
  have hq : ∀ k, j ≤ k → k < i → pl.eff k = false := fun k h1 h2 => by
    cases hke : pl.eff k with
    | false => rfl
    | true => have := lower k h2 hke; omega
  obtain ⟨q1, q2⟩ := pl.heap_from i hji (by omega) hq
  have hn : S.n = (pl.st i).n := by rw [I.n, pl.n_eq i (by omega)]
  have view := inv_view hok I ho hL hr
  have e : ({ pl.st i with tmp := S.tmp } : ASt) = S := by
    show (⟨S.tmp, (pl.st i).heap, (pl.st i).gen, (pl.st i).n, (pl.st i).gh⟩ : ASt) = S
    rw [q1, q2, ← I.heap, ← I.gen, ← hn, pl.gh_eq i (by omega), ← I.gh]
  refine ⟨?_, ?_, hji, hq⟩
  · rcases h1 with h1 | ⟨j', want, d, a1, a2, a3, a4⟩
    · exact .inl h1
    · exact .inr ⟨j', want, d, a1, a2, by rw [hn]; exact a3, by rw [view d (guard_looks a1 a2)]; exact a4⟩
  · have := aEff_tmp (τ := S.tmp) view h2
    rwa [e] at this

/-- how many are still to be done -/
def cu (L : Nat → Bool) : Nat → Nat
  | 0 => 0
  | n + 1 => cu L n + if L n then 0 else 1
omit hok in
theorem cu_set {L L' : Nat → Bool} {i : Nat} (h : L i = false) (hi : L' i = true) (hne : ∀ k, k ≠ i → L' k = L k) : ∀ n, cu L n = cu L' n + if i < n then 1 else 0
  | 0 => rfl
  | n + 1 => by
    simp only [cu, cu_set h hi hne n]
    by_cases e : n = i
    · subst e; simp [h, hi]
    · rw [hne n e]
      by_cases hl : i < n
      · have : i < n + 1 := by omega
        simp only [hl, this, if_true]
        omega
      · have : ¬ i < n + 1 := by omega
        simp only [hl, this, if_false]
        omega
omit hok in
theorem cu_zero {L : Nat → Bool} : ∀ n, cu L n = 0 → ∀ i, i < n → L i = true
  | 0, _, i, hi => by omega
  | n + 1, h, i, hi => by
    simp only [cu] at h
    by_cases e : i = n
    · subst e
      cases hL : L i with
      | true => rfl
      | false => rw [hL] at h; simp at h
    · exact cu_zero n (by omega) i (by omega)
theorem inv_done {L : Nat → Bool} {S : ASt} {j : Nat} (I : Inv pl L S j) (hall : ∀ i, i < ops.size → L i = true) : S = sf := by
  have hq : ∀ k, j ≤ k → k < ops.size → pl.eff k = false := fun k h1 h2 => by
    cases hke : pl.eff k with
    | false => rfl
    | true => have := (I.eff k h2 hke).2 (hall k h2); omega
  obtain ⟨q1, q2⟩ := pl.heap_from ops.size I.le (Nat.le_refl _) hq
  have ht : S.tmp = (pl.st ops.size).tmp := by
    funext t
    by_cases hex : ∃ (k : Nat) (ok : Oper), ops[k]? = some ok ∧ ok.dst = some t
    · obtain ⟨k, ok, hk, hd⟩ := hex
      have hkn := (Array.getElem?_eq_some_iff.1 hk).1
      rw [I.set k ok t hk (hall k hkn) hd]
      refine (pl.tmp_from ops.size (by omega) (Nat.le_refl _) fun x ox h1 h2 hox hxd => ?_).symm
      exact ((drawOk_spec hok hox).2 k t (by omega) (by rw [hk]; exact hd)).1 hxd
    · rw [I.old t fun k ok hk _ hd => hex ⟨k, ok, hk, hd⟩]
      exact ((pl.tmp_from (a := 0) ops.size (by omega) (Nat.le_refl _) fun x ox h1 h2 hox hxd => hex ⟨x, ox, hox, hxd⟩).trans (by rw [pl.st0])).symm
  rw [← pl.stn]
  have e1 : S = ⟨S.tmp, S.heap, S.gen, S.n, S.gh⟩ := rfl
  have e2 : pl.st ops.size = ⟨(pl.st ops.size).tmp, (pl.st ops.size).heap, (pl.st ops.size).gen, (pl.st ops.size).n, (pl.st ops.size).gh⟩ := rfl
  rw [e1, e2, ht, I.heap, I.gen, I.n, I.gh, q1, q2, pl.n_eq _ (Nat.le_refl _), pl.gh_eq _ (Nat.le_refl _)]
theorem ready_done {listed : Array Bool} (hsz : listed.size = ops.size) (h : Region.ready .any ops listed = []) : ∀ i, i < ops.size → listed.getD i false = true := by
  intro i
  induction i using Nat.strongRecOn with
  | ind i ih =>
    intro hi
    cases hL : listed.getD i false with
    | true => rfl
    | false =>
      exfalso
      have ho : ops[i]? = some ops[i] := Array.getElem?_eq_getElem hi
      have : i ∈ Region.ready .any ops listed := by
        rw [mem_ready]
        refine ⟨?_, ops[i], ho, fun e he hb => ?_⟩
        · have h1 : i < listed.size := by omega
          simp only [Array.getD_eq_getD_getElem?, Array.getElem?_eq_getElem h1, Option.getD_some] at hL ⊢
          exact hL
        · have := (drawOk_spec hok ho).1 e he hb
          exact ih e.on this (by omega)
      rw [h] at this
      simp at this

theorem draw_sound {Q : Exit → Act → World → Prop} (hQ : ∀ m a w, Sim okA w0 sf m a w → Q .normal a w) :
    ∀ (fuel : Nat) (listed : Array Bool) (S : ASt) (j : Nat) (m : Nat → Option Nat) (a : Act) (w : World), listed.size = ops.size → Inv pl (fun i => listed.getD i false) S j → cu (fun i => listed.getD i false) ops.size ≤ fuel →
      Sim okA w0 S m a w → wpAny P .any ops Q fuel listed a w := by
  intro fuel
  induction fuel with
  | zero =>
    intro listed S j m a w hsz I hc hS
    have hall := cu_zero ops.size (by omega) (L := fun i => listed.getD i false)
    refine ⟨?_, hQ m a w (inv_done hok I hall ▸ hS)⟩
    cases hr : Region.ready .any ops listed with
    | nil => rfl
    | cons i l =>
      exfalso
      have : i ∈ Region.ready .any ops listed := by rw [hr]; simp
      obtain ⟨h1, o, ho, _⟩ := mem_ready.1 this
      have hi := (Array.getElem?_eq_some_iff.1 ho).1
      have h2 := hall i hi
      have h3 : i < listed.size := by omega
      simp only [Array.getD_eq_getD_getElem?, Array.getElem?_eq_getElem h3, Option.getD_some] at h1 h2
      rw [h1] at h2; simp at h2
  | succ fuel ih =>
    intro listed S j m a w hsz I hc hS
    refine ⟨fun hr => hQ m a w (inv_done hok I (ready_done hok hsz hr) ▸ hS), fun i hi => ?_⟩
    obtain ⟨h1, o, ho, hr⟩ := mem_ready.1 hi
    have hin := (Array.getElem?_eq_some_iff.1 ho).1
    have hlt : i < listed.size := by omega
    have hL : listed.getD i false = false := by
      simp only [Array.getD_eq_getD_getElem?, Array.getElem?_eq_getElem hlt, Option.getD_some] at h1 ⊢
      exact h1
    have hset : ∀ k, (listed.setIfInBounds i true).getD k false = if k = i then true else listed.getD k false := fun k => by
      simp only [Array.getD_eq_getD_getElem?, Array.getElem?_setIfInBounds]
      by_cases e : k = i
      · subst e; simp [hlt]
      · simp [e, Ne.symm e]
    have hc' : cu (fun k => (listed.setIfInBounds i true).getD k false) ops.size ≤ fuel := by
      have := cu_set (L := fun k => listed.getD k false) (L' := fun k => (listed.setIfInBounds i true).getD k false) (i := i) hL (by simp only [hset]; simp) (fun k hk => by simp only [hset, hk, if_false]) ops.size
      rw [if_pos hin] at this
      omega
    have hsz' : (listed.setIfInBounds i true).size = ops.size := by simpa using hsz
    have closed' : ∀ k o', ops[k]? = some o' → (listed.setIfInBounds i true).getD k false = true → ∀ e ∈ o'.after, Region.binds .any e = true → (listed.setIfInBounds i true).getD e.on false = true := fun k o' hk hkL e he hb => by
      rw [hset] at hkL ⊢
      by_cases ek : k = i
      · subst ek
        rw [ho] at hk
        simp only [Option.some.injEq] at hk
        subst hk
        have := hr e he hb
        split
        · rfl
        · exact this
      · simp only [ek, if_false] at hkL
        have := I.closed k o' hk hkL e he hb
        split
        · rfl
        · exact this
    unfold wpOp
    rw [ho]
    simp only
    have hnS : S.n = (pl.st i).n := by rw [I.n, pl.n_eq i (by omega)]
    have other : ∀ {d : Nat}, o.dst = some d → ∀ k ok, k ≠ i → ops[k]? = some ok → ok.dst ≠ some d := fun {d} hd k ok hk hok' => ((drawOk_spec hok hok').2 i d (Ne.symm hk) (by rw [ho]; exact hd)).1
    cases he : pl.eff i with
    | false =>
      obtain ⟨v, hy, hd, hv⟩ := inv_quiet hok I ho hL hr he
      have I' : Inv pl (fun k => (listed.setIfInBounds i true).getD k false) (S.putD o.dst v) j := by
        refine ⟨by rw [putD_n]; exact I.n, by rw [putD_gh]; exact I.gh, I.le, fun k ok d hk hkL hkd => ?_, fun t ht => ?_, ?_, ?_, fun k hk hke => ?_, closed'⟩
        · simp only [hset] at hkL
          by_cases e : k = i
          · subst e
            rw [ho] at hk
            simp only [Option.some.injEq] at hk
            subst hk
            rw [hv, hkd]
            simp [ASt.putD, ASt.set, upd]
          · simp only [e, if_false] at hkL
            rw [putD_tmp fun h => other h k ok e hk hkd]
            exact I.set k ok d hk hkL hkd
        · have h1 := ht i o ho (by simp only [hset]; simp)
          rw [putD_tmp h1]
          refine I.old t fun k ok hk hkL => ht k ok hk ?_
          simp only [hset]
          split
          · rfl
          · exact hkL
        · cases o.dst <;> exact I.heap
        · cases o.dst <;> exact I.gen
        · have hki : k ≠ i := fun e => by rw [e, he] at hke; simp at hke
          simp only [hset, hki, if_false]
          exact I.eff k hk hke
      unfold AYields at hy
      split at hy
      · rename_i hg
        rw [if_pos (by simp [Region.wanted, hg])]
        exact .inl (aout_wp hS hy (putD_put hd) fun m' a' w' S' => ih _ _ j m' a' w' hsz' I' hc' S')
      · rename_i j' want hg
        obtain ⟨d, hgd, hgn, ⟨hx, hy⟩ | ⟨hx | hx, rfl⟩⟩ := hy
        · obtain ⟨hyl, _⟩ := yielded_of hS hgd hgn hx
          rw [if_pos (by simp [Region.wanted, hg, hyl])]
          exact .inl (aout_wp hS hy (putD_put hd) fun m' a' w' S' => ih _ _ j m' a' w' hsz' I' hc' S')
        · obtain ⟨hyl, _⟩ := yielded_of hS hgd hgn hx
          rw [if_neg (by simp [Region.wanted, hg, hyl])]
          exact ih _ _ j _ _ _ hsz' I' hc' (hS.putv (t := .tup []) (v := undef) (putD_put hd) ⟨[], rfl, rfl⟩)
        · have h1 := hS.tmps d
          rw [hx] at h1
          obtain ⟨vs, e1, e2⟩ := h1
          simp only [RepL] at e2
          subst e2
          have hlt : d < a.tmps.size := by rw [hS.size]; exact hgn
          have h2 : a.tmps[d]? = some (.tuple #[]) := by
            rw [Array.getElem?_eq_getElem hlt]
            simp only [Array.getD_eq_getD_getElem?, Array.getElem?_eq_getElem hlt, Option.getD_some] at e1
            rw [e1]
          have hyl : yielded ops a.tmps j' = none := by simp [yielded, hgd, h2]
          rw [if_neg (by simp [Region.wanted, hg, hyl])]
          exact ih _ _ j _ _ _ hsz' I' hc' (hS.putv (t := .tup []) (v := undef) (putD_put hd) ⟨[], rfl, rfl⟩)
    | true =>
      obtain ⟨hg, hE, hji, hq⟩ := inv_wrote hok I ho hL hr he
      have I' : Inv pl (fun k => (listed.setIfInBounds i true).getD k false) { pl.st (i + 1) with tmp := putT o.dst S.tmp (pl.st (i + 1)) } (i + 1) := by
        refine ⟨pl.n_eq _ (by omega), pl.gh_eq _ (by omega), by omega, fun k ok d hk hkL hkd => ?_, fun t ht => ?_, rfl, rfl, fun k hk hke => ?_, closed'⟩
        · simp only [hset] at hkL
          by_cases e : k = i
          · subst e
            rw [ho] at hk
            simp only [Option.some.injEq] at hk
            subst hk
            rw [hkd]
            simp [putT, upd]
          · simp only [e, if_false] at hkL
            have : putT o.dst S.tmp (pl.st (i + 1)) d = S.tmp d := by
              cases hd : o.dst with
              | none => rfl
              | some d' => exact upd_ne fun h => other hd k ok e hk (by rw [hkd, ← h])
            show putT o.dst S.tmp (pl.st (i + 1)) d = _
            rw [this]
            exact I.set k ok d hk hkL hkd
        · have h1 := ht i o ho (by simp only [hset]; simp)
          have : putT o.dst S.tmp (pl.st (i + 1)) t = S.tmp t := by
            cases hd : o.dst with
            | none => rfl
            | some d' => exact upd_ne fun h => h1 (by rw [hd, h])
          show putT o.dst S.tmp (pl.st (i + 1)) t = _
          rw [this]
          refine I.old t fun k ok hk hkL => ht k ok hk ?_
          simp only [hset]
          split
          · rfl
          · exact hkL
        · simp only [hset]
          by_cases e : k = i
          · subst e; simp
          · simp only [e, if_false]
            have h1 := I.eff k hk hke
            constructor
            · intro h
              by_cases hkj : k < j
              · exact h1.1 hkj
              · have := hq k (by omega) (by omega)
                rw [hke] at this; simp at this
            · intro h
              have := h1.2 h
              omega
      have hw : Region.wanted o (yielded ops a.tmps) = true := by
        rcases hg with hg | ⟨j', want, d, hg, hgd, hgn, hx⟩
        · simp [Region.wanted, hg]
        · obtain ⟨hyl, _⟩ := yielded_of hS hgd hgn hx
          simp [Region.wanted, hg, hyl]
      rw [if_pos hw]
      exact .inl (aeff_wp hS hE fun m' a' w' S' => ih _ _ (i + 1) m' a' w' hsz' I' hc' S')
omit hok in
theorem inv_start (pl : Plan P ops s0 sf) : Inv pl (fun i => (Array.replicate ops.size false).getD i false) s0 0 := by
  have h0 : ∀ i, (Array.replicate ops.size false).getD i false = false := fun i => by
    simp only [Array.getD_eq_getD_getElem?, Array.getElem?_replicate]
    split <;> rfl
  refine ⟨rfl, rfl, Nat.zero_le _, fun k o d _ h => ?_, fun _ _ => rfl, by rw [pl.st0], by rw [pl.st0], fun k _ _ => ?_, fun i o _ h => ?_⟩
  · simp only [h0] at h; simp at h
  · simp only [h0]; simp
  · simp only [h0] at h; simp at h
end
end Go.Own
