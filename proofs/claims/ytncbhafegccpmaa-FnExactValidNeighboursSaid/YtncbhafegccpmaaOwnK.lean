/-
  OWN WORK, generic over any program: 'awp' is sound; a contract from a walk over abstract states.
-/
import Derived.Test.YtncbhafegccpmaaOwnJ
namespace Go.Own
open Go Go.RowKit

section
variable {P : Program} {okA : Nat → Prop} {w0 : World}

theorem astep_cases {dr : Bool} {o : Oper} {s : ASt} {K : ASt → Prop} (h : astep P dr o s K) :
    (∃ fx args ats f cs as t s', o.op = .call ⟨.value fx, args, ats⟩ ∧ s.eval fx = .clo f cs ∧ snapL s (args.toList.map s.eval ++ cs) = some as ∧ Den P f as t ∧ (dr = true → t.flatT = true) ∧
      (treeL (args.toList.map s.eval ++ cs) = true ∨ t.flatT = true) ∧ s.put o.dst t = some s' ∧ K s') ∨
    (isEff o = true ∧ ∃ s', aeff P s o = some s' ∧ K s') ∨
    (isEff o = false ∧ ∃ v s', avalue P s o = some v ∧ s.put o.dst v = some s' ∧ K s') := by
  unfold astep at h
  split at h
  · rename_i fx args ats ho
    split at h
    · rename_i f cs hf
      split at h
      · rename_i as h1
        obtain ⟨t, h2, h3, h4, s', h5, h6⟩ := h
        exact .inl ⟨fx, args, ats, f, cs, as, t, s', ho, hf, h1, h2, h3, h4, h5, h6⟩
      · exact h.elim
    · exact h.elim
  · split at h
    · rename_i he
      split at h
      · exact .inr (.inl ⟨he, _, ‹_›, h⟩)
      · exact h.elim
    · rename_i he
      split at h
      · split at h
        · exact .inr (.inr ⟨by simpa using he, _, _, ‹_›, ‹_›, h⟩)
        · exact h.elim
      · exact h.elim

theorem astep_wp {s : ASt} {m : Nat → Option Nat} {a : Act} {w : World} (S : Sim okA w0 s m a w) {dr : Bool} {o : Oper} {K : ASt → Prop} (h : astep P dr o s K)
    {next : Act → World → Prop} {Q : Exit → Act → World → Prop} (hK : ∀ s' m' a' w', Sim okA w0 s' m' a' w' → K s' → next a' w') : o.wp P a w next Q := by
  unfold Oper.wp
  rcases astep_cases h with ⟨fx, args, ats, f, cs, as, t, s', ho, hf, h1, h2, h3, h4, h5, h6⟩ | ⟨_, s', he, hk⟩ | ⟨_, v, s', hv, hp, hk⟩
  · obtain ⟨vs, hrun, hc⟩ := call_exec S ho hf h1 h2 h4
    rw [hrun w]
    refine hc.mono ?_
    rintro e w' ⟨v, rfl, hr, hb⟩
    exact hK s' m _ _ ((S.world hb).putv h5 hr) h6
  · rcases aeff_sound S he with ⟨v, w', m', hr, hS⟩ | ⟨w', m', hr, hd, hS⟩
    · rw [hr]; exact hK s' m' _ _ hS hk
    · rw [hr]
      show next (a.put o.dst undef) w'
      rw [hd]
      exact hK s' m' _ _ hS hk
  · obtain ⟨u, hu, hrun⟩ := avalue_sound S hv
    rw [hrun w fun b _ => rfl]
    exact hK s' m _ _ (S.putv hp hu) hk

theorem yielded_of {s : ASt} {m : Nat → Option Nat} {a : Act} {w : World} (S : Sim okA w0 s m a w) {ops : Array Oper} {j d : Nat} (hd : (ops[j]?).bind (·.dst) = some d) (hn : d < s.n) {x : Bool}
    (hx : s.tmp d = .flat (.bool x)) : yielded ops a.tmps j = some x ∧ a.tmps.getD d undef = .bool x := by
  have h1 := S.tmps d
  rw [hx] at h1
  have hlt : d < a.tmps.size := by rw [S.size]; exact hn
  have h2 : a.tmps[d]? = some (.bool x) := by
    rw [Array.getElem?_eq_getElem hlt]
    have := h1.2
    simp only [Array.getD_eq_getD_getElem?, Array.getElem?_eq_getElem hlt, Option.getD_some] at this
    rw [this]
  exact ⟨by simp [yielded, hd, h2], h1.2⟩

theorem guard_cases {s : ASt} {m : Nat → Option Nat} {a : Act} {w : World} (S : Sim okA w0 s m a w) {ops : Array Oper} {o : Oper} {j d : Nat} {want : Bool} (hg : o.guard = some (j, want)) (hd : (ops[j]?).bind (·.dst) = some d) (hn : d < s.n)
    {dr : Bool} {K : ASt → Prop} (h : guardP P dr o K s d want) :
    (Region.wanted o (yielded ops a.tmps) = true ∧ ∃ s', Sim okA w0 s' m a w ∧ astep P dr o s' K) ∨ (Region.wanted o (yielded ops a.tmps) = false ∧ ∃ s', Sim okA w0 s' m a w ∧ skipP s' o.dst K) := by
  unfold guardP at h
  split at h
  · rename_i x hx
    obtain ⟨hy, hv⟩ := yielded_of S hd hn hx
    have hw : Region.wanted o (yielded ops a.tmps) = (x == want) := by
      simp only [Region.wanted, hg, hy]
      cases x <;> cases want <;> rfl
    by_cases e : x = want
    · refine .inl ⟨by rw [hw, e]; simp, _, S.refine ?_, h.1 e⟩
      rw [hv, e]; exact ⟨rfl, rfl⟩
    · have e2 : x = !want := by cases x <;> cases want <;> simp_all
      refine .inr ⟨by rw [hw, e2]; cases want <;> rfl, _, S.refine ?_, h.2 e2⟩
      rw [hv, e2]; exact ⟨rfl, rfl⟩
  · rename_i hx
    have h1 := S.tmps d
    rw [hx] at h1
    obtain ⟨vs, e1, e2⟩ := h1
    simp only [RepL] at e2
    subst e2
    have hlt : d < a.tmps.size := by rw [S.size]; exact hn
    have h2 : a.tmps[d]? = some (.tuple #[]) := by
      rw [Array.getElem?_eq_getElem hlt]
      simp only [Array.getD_eq_getD_getElem?, Array.getElem?_eq_getElem hlt, Option.getD_some] at e1
      rw [e1]
    refine .inr ⟨?_, s, S, h⟩
    have hy : yielded ops a.tmps j = none := by simp [yielded, hd, h2]
    simp only [Region.wanted, hg, hy]
    rfl
  · exact h.elim

theorem aops_wp {ops : Array Oper} {K : ASt → Prop} {Q : Exit → Act → World → Prop} (hK : ∀ s' m' a' w', Sim okA w0 s' m' a' w' → K s' → Q .normal a' w') :
    ∀ (l : List Oper) (k : Nat) (s : ASt) (m : Nat → Option Nat) (a : Act) (w : World), (∀ j, l[j]? = ops[k + j]?) → Sim okA w0 s m a w → aops P false ops K l s → wpOps P ops Q (List.range' k l.length) a w
  | [], k, s, m, a, w, _, S, h => hK s m a w S h
  | o :: l, k, s, m, a, w, hl, S, h => by
    have h0 : ops[k]? = some o := by simpa using (hl 0).symm
    have hl' : ∀ j, l[j]? = ops[k + 1 + j]? := fun j => by have := hl (j + 1); simpa [Nat.add_assoc, Nat.add_comm 1 j] using this
    simp only [List.length_cons, List.range'_succ, wpOps, h0]
    simp only [aops] at h
    split at h
    · rename_i hg
      have : Region.wanted o (yielded ops a.tmps) = true := by simp [Region.wanted, hg]
      rw [if_pos this]
      exact .inl (astep_wp S h fun s' m' a' w' S' h' => aops_wp hK l (k + 1) s' m' a' w' hl' S' h')
    · rename_i j want hg
      split at h
      case h_2 => exact h.elim
      rename_i d hd
      rcases guard_cases S hg hd h.1 h.2 with ⟨hw, s1, S1, h1⟩ | ⟨hw, s1, S1, h1⟩
      · rw [if_pos hw]
        exact .inl (astep_wp S1 h1 fun s' m' a' w' S' h' => aops_wp hK l (k + 1) s' m' a' w' hl' S' h')
      · rw [if_neg (by simp [hw])]
        unfold skipP at h1
        split at h1
        · rename_i s2 hp
          exact aops_wp hK l (k + 1) s2 m _ w hl' (S1.putv (v := undef) hp ⟨[], rfl, rfl⟩) h1
        · exact h1.elim

/-- in whatever order the operations come up -/
theorem aops_quiet {ops : Array Oper} {K : ASt → Prop} {Q : Act → Prop} {m : Nat → Option Nat} {w : World} (hK : ∀ s' a', Sim okA w0 s' m a' w → K s' → Q a') :
    ∀ (l : List Oper) (s : ASt) (a : Act), (∀ o ∈ l, quietOp o = true) → Sim okA w0 s m a w → aops P true ops K l s → wpQuiet P ops (fun w' => Below w.heap.size w w') Q l a
  | [], s, a, _, S, h => hK s a S h
  | o :: l, s, a, hq, S, h => by
    have step : ∀ {s : ASt}, Sim okA w0 s m a w → astep P true o s (aops P true ops K l) → o.quiet P a (fun w' => Below w.heap.size w w') (wpQuiet P ops (fun w' => Below w.heap.size w w') Q l) := fun {s} S h => by
      rcases astep_cases h with ⟨fx, args, ats, f, cs, as, t, s', ho, hf, h1, h2, h3, h4, h5, h6⟩ | ⟨he, _⟩ | ⟨_, v, s', hv, hp, hk⟩
      · have ht := h3 rfl
        -- the one value
        have hone : ∃ u, RepV (envOf okA w0.heap.size s.heap s.gen m w) t u := by
          obtain ⟨vs, _, hc⟩ := call_exec S ho hf h1 h2 h4
          cases t with
          | flat u =>
            refine ⟨u, ?_, rfl⟩
            obtain ⟨e, w', fr, ⟨v, _, hr, _⟩, _⟩ := hc []
            exact hr.1
          | agg cs =>
            obtain ⟨e, w', fr, ⟨v, _, hr, _⟩, _⟩ := hc []
            exact ⟨v, flatT_rep ht hr⟩
          | tup cs =>
            obtain ⟨e, w', fr, ⟨v, _, hr, _⟩, _⟩ := hc []
            exact ⟨v, flatT_rep ht hr⟩
          | _ => simp [AVal.flatT] at ht
        obtain ⟨u, hu⟩ := hone
        refine ⟨u, fun w' hw' => ?_, aops_quiet hK l s' _ (fun o' ho' => hq o' (by simp [ho'])) (S.putv h5 hu) h6⟩
        obtain ⟨vs, hrun, hc⟩ := call_exec (S.world hw') ho hf h1 h2 h4
        unfold Oper.quietAt
        rw [hrun w']
        refine ⟨rfl, hc.mono ?_⟩
        rintro e w'' ⟨v, rfl, hr, hb⟩
        exact ⟨by rw [flatT_one ht hu hr], hw'.trans (hb.mono hw'.size)⟩
      · have := hq o (by simp)
        simp [quietOp, he] at this
      · obtain ⟨u, hu, hrun⟩ := avalue_sound S hv
        refine ⟨u, fun w' hw' => ?_, aops_quiet hK l s' _ (fun o' ho' => hq o' (by simp [ho'])) (S.putv hp hu) hk⟩
        unfold Oper.quietAt
        rw [hrun w' fun b hb => hw'.block b hb]
        exact ⟨rfl, rfl⟩
    simp only [wpQuiet]
    simp only [aops] at h
    split at h
    · rename_i hg
      have : Region.wanted o (yielded ops a.tmps) = true := by simp [Region.wanted, hg]
      rw [if_pos this]
      exact step S h
    · rename_i j want hg
      split at h
      case h_2 => exact h.elim
      rename_i d hd
      rcases guard_cases S hg hd h.1 h.2 with ⟨hw, s1, S1, h1⟩ | ⟨hw, s1, S1, h1⟩
      · rw [if_pos hw]
        exact step S1 h1
      · rw [if_neg (by simp [hw])]
        unfold skipP at h1
        split at h1
        · rename_i s2 hp
          exact aops_quiet hK l s2 _ (fun o' ho' => hq o' (by simp [ho'])) (S1.putv (v := undef) hp ⟨[], rfl, rfl⟩) h1
        · exact h1.elim

theorem Sim.weak {s s' : ASt} {m : Nat → Option Nat} {a : Act} {w : World} (S : Sim okA w0 s m a w) (h : Weak s s') : ∃ m', Sim okA w0 s' m' a w := by
  let m' : Nat → Option Nat := fun β => match s.heap β with
    | some _ => m β
    | none => none
  have back : ∀ β blk b, s'.heap β = some blk → m' β = some b → s.heap β = some blk ∧ m β = some b := fun β blk b hβ hm => by
    simp only [m'] at hm
    rcases h.heap β blk hβ with h1 | ⟨h1, _⟩
    · rw [h1] at hm; exact ⟨h1, hm⟩
    · rw [h1] at hm; simp at hm
  have hle : EnvLe (envOf okA w0.heap.size s.heap s.gen m w) (envOf okA w0.heap.size s'.heap s'.gen m' w) := by
    refine ⟨fun b ⟨h1, h2, h3⟩ => ⟨⟨h1, h2, fun β blk hβ hm => ?_⟩, rfl⟩, h.gen, fun β g r sz hg hl => ⟨?_, fun b k _ hr => hr⟩⟩
    · obtain ⟨q1, q2⟩ := back β blk b hβ hm
      exact h3 β blk q1 q2
    · simp only [envOf] at hl hg ⊢
      split at hl
      · rename_i blk hβ
        split at hl
        · rename_i hgg
          rcases h.heap β blk hβ with h1 | ⟨h1, _, h2, _⟩
          · simp only [m', h1] at hl
            simp only [h1, hgg, if_true]
            exact hl
          · omega
        · simp at hl
      · simp at hl
  refine ⟨m', by rw [h.n]; exact S.size, S.defers, fun t => ?_, fun β blk hβ => ?_, fun β β' blk blk' b h1 h2 hm hm' => ?_, S.below, S.okA⟩
  · rcases h.tmp t with e | e | ⟨β, blk, e1, e2, e3, e4, e5⟩ | ⟨β, g, off, n, blk, e1, e2, e3, e4, e5, e6, e7⟩
    · rw [e]; exact repV_mono hle _ _ (S.tmps t)
    · rw [e]; trivial
    · have hr := S.tmps t
      rw [e1] at hr
      obtain ⟨ad, hv⟩ := hr
      rw [e4, hv]
      have hb : blk.gen < s'.gen := by
        rcases h.heap β blk e3 with h1 | ⟨_, _, _, h2⟩
        · rw [e2] at h1; simp at h1
        · exact h2
      exact ⟨hb, rfl, fun r sz e => ⟨ad, 0, rfl, Nat.le_refl _, Nat.zero_le _, .inl rfl⟩⟩
    · have hr := S.tmps t
      rw [e1] at hr
      obtain ⟨_, _, hp⟩ := hr
      obtain ⟨ad, c, hv, hn, hcm, hcc⟩ := hp _ _ (loc_of e2 e3)
      rw [e6, hv]
      refine ⟨ad, c, rfl, hn, hcm, ?_⟩
      by_cases h0 : c = 0
      · exact .inl (by rw [show n = 0 by omega]; simp)
      · obtain ⟨b, hm, rfl, hroom⟩ := hcc.resolve_left h0
        obtain ⟨hB, _, hC⟩ := (S.blks β blk e2).real b hm
        have hseg := repC_take (n * blk.size) (repC_drop off hC)
        rw [Nat.zero_add] at hseg
        refine .inr ⟨b, off, rfl, ⟨lt_of_room hroom, .inr hB, fun β' blk' hβ' hm' => ?_⟩, repC_mono hle rfl _ _ hseg⟩
        obtain ⟨q1, q2⟩ := back β' blk' b hβ' hm'
        have := S.inj β' β blk' blk b q1 e2 q2 hm
        rw [this, e4] at hβ'
        simp at hβ'
  · rcases h.heap β blk hβ with h1 | ⟨h1, h2, h3, h4⟩
    · exact (S.blks β blk h1).mono h.gen (by simp [m', h1]) hle fun b _ => rfl
    · exact ⟨h4, fun _ => h2, fun b hb => by simp [m', h1] at hb⟩
  · obtain ⟨q1, q2⟩ := back β blk b h1 hm
    obtain ⟨q3, q4⟩ := back β' blk' b h2 hm'
    exact S.inj β β' blk blk' b q1 q3 q2 q4

def Ex.toExit : Ex → Exit
  | .normal => .normal
  | .exit id => .exit id
  | .ret => .ret

def PostOf (okA : Nat → Prop) (w0 : World) (Q : Ex → ASt → Prop) : Exit → Act → World → Prop := fun e a w => ∃ x s m, e = x.toExit ∧ Q x s ∧ Sim okA w0 s m a w

theorem awp_sound (hmix : P.follows .mixedOrders = true) : ∀ (c : Code) (_ : drawsOk c = true) (Q : Ex → ASt → Prop) (s : ASt), awp P c Q s → ∀ (m : Nat → Option Nat) (a : Act) (w : World), Sim okA w0 s m a w → c.wp P (PostOf okA w0 Q) a w
  | .skip, _, Q, s, h, m, a, w, S => wp_skip ⟨.normal, s, m, rfl, h, S⟩
  | .exit id, _, Q, s, h, m, a, w, S => wp_exit ⟨.exit id, s, m, rfl, h, S⟩
  | .ret, _, Q, s, h, m, a, w, S => wp_ret ⟨.ret, s, m, rfl, h, S⟩
  | .region id ops d, hd, Q, s, h, m, a, w, S => by
    cases d with
    | false =>
      refine wp_region ?_
      have := aops_wp (P := P) (ops := ops) (Q := PostOf okA w0 Q) (K := Q .normal) (fun s' m' a' w' S' h' => ⟨.normal, s', m', rfl, h', S'⟩) ops.toList 0 s m a w (by simp) S h
      simpa [List.range_eq_range'] using this
    | true =>
      have hok : drawOk ops = true := by simpa [drawsOk] using hd
      simp only [drawOk, Bool.and_eq_true] at hok
      have hq : ∀ o ∈ ops.toList, quietOp o = true := fun o ho => by
        have := hok.2
        rw [Array.all_eq_true_iff_forall_mem] at this
        exact this o (by simpa using ho)
      refine wp_region_quiet (C := fun w' => Below w.heap.size w w') hmix hok.1 ⟨rfl, rfl, rfl, Nat.le_refl _, fun _ _ => rfl⟩ ?_
      refine aops_quiet (okA := okA) (w0 := w0) (m := m) (K := Q .normal) (fun s' a' S' h' w' hw' => ?_) ops.toList s a hq S h
      exact ⟨.normal, s', m, rfl, h', S'.world hw'⟩
  | .seq x y, hd, Q, s, h, m, a, w, S => by
    simp only [drawsOk, Bool.and_eq_true] at hd
    refine wp_seq (wp_mono (awp_sound hmix x hd.1 _ s h m a w S) ?_)
    rintro e a' w' ⟨ex, s', m', rfl, hq, S'⟩
    cases ex with
    | normal => exact awp_sound hmix y hd.2 Q s' hq m' a' w' S'
    | exit id => exact ⟨.exit id, s', m', rfl, hq, S'⟩
    | ret => exact ⟨.ret, s', m', rfl, hq, S'⟩
  | .cond c x y, hd, Q, s, h, m, a, w, S => by
    simp only [drawsOk, Bool.and_eq_true] at hd
    simp only [awp, condP] at h
    split at h
    · rename_i b hb
      have he := S.eval c
      rw [hb] at he
      refine wp_cond_split he.2 (fun hb => awp_sound hmix x hd.1 Q s (h.1 hb) m a w S) (fun hb => awp_sound hmix y hd.2 Q s (h.2 hb) m a w S)
    · exact h.elim
  | .block id c, hd, Q, s, h, m, a, w, S => by
    simp only [drawsOk] at hd
    refine wp_block (wp_mono (awp_sound hmix c hd _ s h m a w S) ?_)
    rintro e a' w' ⟨ex, s', m', rfl, hq, S'⟩
    cases ex with
    | normal => exact ⟨.normal, s', m', rfl, hq, S'⟩
    | ret => exact ⟨.ret, s', m', rfl, hq, S'⟩
    | exit i =>
      simp only [inBlockA] at hq
      show Exit.inBlock id _ (.exit i) a' w'
      simp only [Exit.inBlock]
      split at hq
      · rename_i hi; rw [if_pos hi]; exact ⟨.normal, s', m', rfl, hq, S'⟩
      · rename_i hi; rw [if_neg hi]; exact ⟨.exit i, s', m', rfl, hq, S'⟩
  | .loop c, hd, Q, s, h, m, a, w, S => by
    simp only [drawsOk] at hd
    obtain ⟨ι, I, μ, x, hwk, hround⟩ := h
    obtain ⟨m1, S1⟩ := S.weak hwk
    refine wp_loop_ghost (fun n a w => ∃ x m, μ x = n ∧ Sim okA w0 (I x) m a w) (μ x) ⟨x, m1, rfl, S1⟩ ?_
    rintro n a w ⟨y, m2, rfl, S2⟩
    refine wp_mono (awp_sound hmix c hd _ (I y) (hround y) m2 a w S2) ?_
    rintro e a' w' ⟨ex, s', m', rfl, hq, S'⟩
    cases ex with
    | normal =>
      obtain ⟨z, hw, hlt⟩ := hq
      obtain ⟨m3, S3⟩ := S'.weak hw
      exact ⟨μ z, hlt, z, m3, rfl, S3⟩
    | exit id => exact ⟨.exit id, s', m', rfl, hq, S'⟩
    | ret => exact ⟨.ret, s', m', rfl, hq, S'⟩
  | .rangeFunc .., _, _, _, h, _, _, _, _ => h.elim
  | .scope .., _, _, _, h, _, _, _, _ => h.elim
  | .label .., _, _, _, h, _, _, _, _ => h.elim
  | .goto .., _, _, _, h, _, _, _, _ => h.elim
  | .refuse .., _, _, _, h, _, _, _, _ => h.elim

mutual
theorem lens_rep {E : Env} : ∀ {t : AVal} {v : Value}, RepV E t v → t.tree = true → lens t
  | .lst cells n, _, ⟨a, c, _, h1, h2, h3⟩, ht => ⟨Nat.le_trans h1 h2, by
      rcases h3 with h3 | ⟨b, off, _, _, hc⟩
      · rw [h3]; trivial
      · exact lensC_rep hc (by simpa [AVal.tree] using ht)⟩
  | .agg cs, _, ⟨vs, _, hl⟩, ht => lensA_rep hl (by simpa [AVal.tree] using ht)
  | .tup cs, _, ⟨vs, _, hl⟩, ht => lensL_rep hl (by simpa [AVal.tree] using ht)
  | .iptr cells _, _, ⟨_, _, _, _, hc⟩, ht => lensC_rep hc (by simpa [AVal.tree] using ht)
  | .clo _ cs, _, ⟨vs, _, hl⟩, ht => lensL_rep hl (by simpa [AVal.tree] using ht)
  | .flat _, _, _, _ => trivial
  | .nl, _, _, _ => trivial
  | .own _ _ _ _, _, _, _ => trivial
  | .ptr _ _ _, _, _, _ => trivial
  | .dead, _, _, _ => trivial
theorem lensL_rep {E : Env} : ∀ {cs : List AVal} {vs : List Value}, RepL E cs vs → treeL cs = true → lensL cs
  | [], _, _, _ => trivial
  | c :: cs, _, ⟨v, r, _, hv, hl⟩, ht => by
    simp only [treeL, Bool.and_eq_true] at ht
    exact ⟨lens_rep hv ht.1, lensL_rep hl ht.2⟩
theorem lensA_rep {E : Env} : ∀ {cs : List AVal} {vs : List Value}, RepA E cs vs → treeL cs = true → lensL cs
  | [], _, _, _ => trivial
  | c :: cs, _, ⟨v, r, _, _, hv, hl⟩, ht => by
    simp only [treeL, Bool.and_eq_true] at ht
    exact ⟨lens_rep hv ht.1, lensA_rep hl ht.2⟩
theorem lensC_rep {E : Env} : ∀ {cs : List AVal} {b off : Nat}, RepC E cs b off → treeL cs = true → lensL cs
  | [], _, _, _, _ => trivial
  | c :: cs, _, _, ⟨⟨v, _, _, hv⟩, hl⟩, ht => by
    simp only [treeL, Bool.and_eq_true] at ht
    exact ⟨lens_rep hv ht.1, lensC_rep hl ht.2⟩
end

theorem ares_sound {s : ASt} {m : Nat → Option Nat} {a : Act} {w : World} (S : Sim okA w0 s m a w) : ∀ {rs : List ResultVar} {l : List AVal}, ares P s rs = some l →
    ∃ vs : List Value, RepL (envOf okA w0.heap.size s.heap s.gen m w) l vs ∧ (rs.mapM (fun r => match r with
      | .tmp t => pure (a.tmps.getD t undef)
      | .cell x t => do loadVar t (← asAddr (a.tmps.getD x undef)) : ResultVar → Sem Value)).run P w = .ok vs w
  | [], l, h => by simp [ares] at h; subst h; exact ⟨[], rfl, by simp⟩
  | .tmp t :: rs, l, h => by
    simp only [ares] at h
    split at h
    case h_2 => simp at h
    rename_i l' hl'
    simp only [Option.some.injEq] at h
    subst h
    obtain ⟨vs, hr, hrun⟩ := ares_sound S hl'
    exact ⟨_ :: vs, ⟨_, vs, rfl, S.tmps t, hr⟩, by simp only [List.mapM_cons, Sem.run_bind, Sem.run_pure, Result.andThen_ok, hrun]⟩
  | .cell x t :: rs, l, h => by
    simp only [ares] at h
    split at h
    case h_2 => simp at h
    rename_i v l' hv hl'
    simp only [Option.some.injEq] at h
    subst h
    obtain ⟨vs, hr, hrun⟩ := ares_sound S hl'
    obtain ⟨ad, he, u, hu, hload⟩ := S.load hv (S.tmps x)
    have hA : (asAddr (a.tmps.getD x undef)).run P w = .ok ad w := by rw [he]; rfl
    exact ⟨u :: vs, ⟨u, vs, rfl, hu, hr⟩, by simp only [List.mapM_cons, Sem.run_bind, hA, Sem.run_pure, Result.andThen_ok, hload w (fun b _ => rfl), hrun]⟩

theorem den_of_awp {f : FuncId} {fn : Func} {c : Code} {args : List AVal} {t : AVal} (hf : P.funcs[f]? = some fn) (hb : fn.body = some c) (hn : (fn.name == "runtime.NumGoroutine") = false)
    (ha : args.length ≤ fn.ntmps) (hta : treeL args = true) (ht : t.tree = true) (hmix : P.follows .mixedOrders = true) (hd : drawsOk c = true) (h : lensL args → awp P c (apost P fn t) (init fn.ntmps args)) : Den P f args t := by
  refine ⟨⟨fn, hf, by simp [hb], hn⟩, ht, fun w vs ok hok hrep => ?_⟩
  have hl := repL_length hrep
  have S : Sim ok w (init fn.ntmps args) (fun _ => none) { tmps := vs.toArray ++ Array.replicate (fn.ntmps - vs.toArray.size) undef, defers := [] } w := by
    refine ⟨?_, rfl, fun t => ?_, fun β blk h => by simp [init] at h, fun β β' blk blk' b h => by simp [init] at h, Below.refl _ _, hok⟩
    · simp [init]; omega
    · simp only [init]
      by_cases hlt : t < args.length
      · obtain ⟨v, hv, hr⟩ := repL_get hrep (i := t) (c := args[t]) (by simp [hlt])
        have e1 : args.getD t .dead = args[t] := by simp [List.getD, hlt]
        have e2 : (vs.toArray ++ Array.replicate (fn.ntmps - vs.toArray.size) undef).getD t undef = v := by
          have hlt' : t < vs.length := by omega
          rw [Array.getD_eq_getD_getElem?, Array.getElem?_append_left (by simpa using hlt')]
          simp [hv]
        rw [e1, e2]
        have hmem : args[t] ∈ args := List.getElem_mem hlt
        exact repV_tree (E := treeEnv w ok) (E' := envOf ok w.heap.size (fun _ => none) 0 (fun _ => none) w) (fun b hb => ⟨⟨hok b hb, .inl hb, fun β blk h => by simp at h⟩, rfl⟩) _ _ ((treeL_iff _).1 hta _ hmem) hr
      · have e1 : args.getD t .dead = .dead := by simp [List.getD, List.getElem?_eq_none (Nat.le_of_not_lt hlt)]
        rw [e1]
        trivial
  refine calls_of_wp hf hb (wp_mono (awp_sound hmix c hd _ _ (h (lensL_rep hrep hta)) _ _ _ S) ?_)
  rintro e a' w' ⟨x, s', m', rfl, hq, S'⟩
  have fin : (∃ r, ares P s' fn.results.toList = some r ∧ snap 6 s' (one r) = some t) → a'.defers = [] ∧ ∃ v, (results fn a'.tmps).run P w' = .ok v w' ∧
      ∃ v', Ending.returned v = .returned v' ∧ RepV (treeEnv w' fun b => ok b ∨ (w.heap.size ≤ b ∧ b < w'.heap.size)) t v' ∧ Below w.heap.size w w' := by
    rintro ⟨r, hr, hsn⟩
    obtain ⟨us, hrep', hrun⟩ := ares_sound S' hr
    have hone : ∃ v, (results fn a'.tmps).run P w' = .ok v w' ∧ RepV (envOf ok w.heap.size s'.heap s'.gen m' w') (one r) v := by
      have hm : (fn.results.mapM (fun r => match r with
          | .tmp t => pure (a'.tmps.getD t undef)
          | .cell x t => do loadVar t (← asAddr (a'.tmps.getD x undef)) : ResultVar → Sem Value)).run P w' = .ok us.toArray w' := by
        rw [Array.mapM_eq_mapM_toList]
        simp only [Sem.run_map, hrun, Result.andThen_ok]
      have hres : (results fn a'.tmps).run P w' = .ok (if h : us.toArray.size = 1 then us.toArray[0] else .tuple us.toArray) w' := by
        unfold results
        rw [Sem.run_bind]
        have hm' := hm
        erw [hm']
        rfl
      refine ⟨_, hres, ?_⟩
      have hlr := repL_length hrep'
      match r, us, hrep', hlr with
      | [], [], h, _ => exact ⟨[], rfl, h⟩
      | [x], [u], h, _ =>
        obtain ⟨v, r, e, hv, _⟩ := h
        simp only [List.cons.injEq] at e
        simpa [one, e.1] using hv
      | x :: y :: r, u :: v :: q, h, _ => exact ⟨u :: v :: q, by simp, h⟩
    obtain ⟨v, hv1, hv2⟩ := hone
    refine ⟨S'.defers, v, hv1, v, rfl, (snap_sound S' (fun b hb => ?_) false (fun _ b h1 h2 => .inr ⟨h1, h2⟩) 6 _ _ v hsn (fun h => by simp at h) hv2).1, S'.below⟩
    rcases hb.2.1 with h | h
    · exact .inl h
    · exact .inr ⟨h, hb.1⟩
  cases x with
  | normal => exact fin hq
  | ret => exact fin hq
  | exit id => exact hq.elim
end
end Go.Own
