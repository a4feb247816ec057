/-
  OWN WORK, generic over any program: 'awp' is sound; contracts from walks over abstract states.
-/
import Derived.Test.YtkmhoebopfgpdaaOwnT
namespace Go.Own
open Go Go.RowKit
variable [GL]
set_option linter.unusedSectionVars false

section
variable {P : Program} {okA : Nat → Prop} {w0 : Base}

theorem wvl_length {s s' : ASt} : ∀ {l l' : List AVal}, WVL s s' l l' → l.length = l'.length
  | [], [], _ => rfl
  | _ :: _, _ :: _, h => by simp [wvl_length h.2]
  | [], _ :: _, h => h.elim
  | _ :: _, [], h => h.elim
theorem Sim.weak {s s' : ASt} {m : Nat → Option Nat} {a : Act} {w : World} (S : Sim okA w0 s m a w) (h : Weak s s') : ∃ m', Sim okA w0 s' m' a w := by
  let m' : Nat → Option Nat := fun β => match s.heap β with
    | some _ => m β
    | none => none
  have back : ∀ β blk' b, s'.heap β = some blk' → m' β = some b → (∃ blk, s.heap β = some blk) ∧ m β = some b := fun β blk' b hβ hm => by
    simp only [m'] at hm
    rcases h.heap β blk' hβ with ⟨blk, h1, _⟩ | ⟨h1, _⟩
    · rw [h1] at hm; exact ⟨⟨blk, h1⟩, hm⟩
    · rw [h1] at hm; simp at hm
  have hle : EnvLe (envOf okA w0.new s.heap s.gen m w) (envOf okA w0.new s'.heap s'.gen m' w) := by
    refine ⟨fun b ⟨h1, h2, h3⟩ => ⟨⟨h1, h2, fun β blk hβ hm => ?_⟩, rfl⟩, h.gen, fun β g r sz hg hl => ⟨?_, fun b k _ hr => hr⟩⟩
    · obtain ⟨⟨blk', q1⟩, q2⟩ := back β blk b hβ hm
      exact h3 β blk' q1 q2
    · simp only [envOf] at hl hg ⊢
      split at hl
      · rename_i blk hβ
        split at hl
        · rename_i hgg
          rcases h.heap β blk hβ with ⟨blk0, h1, h2, h3, _⟩ | ⟨h1, _, h2, _⟩
          · simp only [m', h1] at hl
            simp only [h1, ← h2, hgg, if_true, ← h3]
            exact hl
          · omega
        · simp at hl
      · simp at hl
  have key : ∀ v v' u, WV s s' v v' → RepV (envOf okA w0.new s.heap s.gen m w) v u → RepV (envOf okA w0.new s'.heap s'.gen m' w) v' u := by
    intro v v' u hwv hr
    rcases hwv with e | e | ⟨β, blk, e1, e2, e3, e4, e5⟩ | ⟨β, g, off, n, blk, e1, e2, e3, e4, e5, e6, e7⟩ | ⟨β, g, off, n, blk, e1, e2, e3, e4⟩ | ⟨β, g, off, blk, e1, e2, e3, e4, e5, e6⟩
    · rw [e]; exact repV_mono hle _ _ hr
    · rw [e]; trivial
    · rw [e1] at hr
      obtain ⟨ad, hv⟩ := hr
      rw [e4, hv]
      have hb : blk.gen < s'.gen := by
        rcases h.heap β blk e3 with ⟨_, h1, _⟩ | ⟨_, _, _, h2⟩
        · rw [e2] at h1; simp at h1
        · exact h2
      exact ⟨hb, rfl, fun r sz e => ⟨ad, 0, rfl, Nat.le_refl _, Nat.zero_le _, .inl rfl, fun _ _ => by simp only [envOf, e3, m', e2, if_true, Option.some.injEq, Prod.mk.injEq] at e; exact e.1.symm⟩⟩
    · rw [e1] at hr
      obtain ⟨_, _, hp⟩ := hr
      obtain ⟨ad, c, hv, hn, hcm, hcc, _⟩ := hp _ _ (loc_of e2 e3)
      rw [e6, hv]
      refine ⟨ad, c, rfl, hn, hcm, ?_⟩
      by_cases h0 : c = 0
      · exact .inl (by rw [show n = 0 by omega]; simp)
      · obtain ⟨b, hm, rfl, hroom⟩ := hcc.resolve_left h0
        obtain ⟨hB, _, hC⟩ := (S.blks β blk e2).real b hm
        have hseg := repC_take (n * blk.size) (repC_drop off hC)
        rw [Nat.zero_add] at hseg
        refine .inr ⟨b, off, rfl, ⟨lt_of_room hroom, .inr hB, fun β' blk' hβ' hm' => ?_⟩, repC_mono hle rfl _ _ hseg⟩
        obtain ⟨⟨blk'', q1⟩, q2⟩ := back β' blk' b hβ' hm'
        have := S.inj β' β blk'' blk b q1 e2 q2 hm
        rw [this, e4] at hβ'
        simp at hβ'
    · rw [e1] at hr
      obtain ⟨_, _, hp⟩ := hr
      obtain ⟨ad, c, hv, hn, hcm, _, _⟩ := hp _ _ (loc_of e2 e3)
      rw [e4, hv]
      exact ⟨ad, c, rfl, hn, hcm, .inl rfl⟩
    · rw [e1] at hr
      obtain ⟨_, _, hp⟩ := hr
      obtain ⟨b, hm, hv⟩ := hp _ _ (loc_of e2 e3)
      rw [e5, hv]
      obtain ⟨hB, ⟨arr, T, hcur, hsz⟩, hC⟩ := (S.blks β blk e2).real b hm
      refine ⟨b, 0, by rw [Nat.zero_add], ⟨heap_lt hcur, .inr hB, fun β' blk' hβ' hm' => ?_⟩, repC_mono hle rfl _ _ hC⟩
      obtain ⟨⟨blk'', q1⟩, q2⟩ := back β' blk' b hβ' hm'
      have := S.inj β' β blk'' blk b q1 e2 q2 hm
      rw [this, e4] at hβ'
      simp at hβ'
  have keyC : ∀ (l l' : List AVal) (b off : Nat), WVL s s' l l' → RepC (envOf okA w0.new s.heap s.gen m w) l b off → RepC (envOf okA w0.new s'.heap s'.gen m' w) l' b off := by
    intro l
    induction l with
    | nil =>
      intro l' b off hw _
      cases l' with
      | nil => trivial
      | cons _ _ => exact hw.elim
    | cons v l ih =>
      intro l' b off hw hr
      cases l' with
      | nil => exact hw.elim
      | cons v' l' =>
        obtain ⟨⟨u, q1, q2, q3⟩, q4⟩ := hr
        exact ⟨⟨u, q1, q2, key v v' u hw.1 q3⟩, ih l' b (off + 1) hw.2 q4⟩
  refine ⟨m', by rw [h.n]; exact S.size, S.defers, fun t => key _ _ _ (h.tmp t) (S.tmps t), fun p hp => repV_mono hle _ _ (S.pins p hp), fun β blk hβ => ?_, fun β β' blk blk' b h1 h2 hm hm' => ?_, S.below, S.okA, S.K⟩
  · rcases h.heap β blk hβ with ⟨blk0, h1, h2, h3, h4⟩ | ⟨h1, h2, h3, h4⟩
    · have B := S.blks β blk0 h1
      have hm : m' β = m β := by simp [m', h1]
      refine ⟨by rw [h2]; exact Nat.lt_of_lt_of_le B.gen h.gen, fun hv => ?_, fun b hb => ?_⟩
      · rw [hm] at hv
        have := wvl_length h4
        rw [B.virt hv] at this
        exact List.eq_nil_of_length_eq_zero (by simpa using this.symm)
      · rw [hm] at hb
        obtain ⟨p1, ⟨arr, T, p2, p3⟩, p4⟩ := B.real b hb
        exact ⟨p1, ⟨arr, T, p2, by rw [← wvl_length h4]; exact p3⟩, keyC _ _ b 0 h4 p4⟩
    · exact ⟨h4, fun _ => h2, fun b hb => by simp [m', h1] at hb⟩
  · obtain ⟨⟨_, q1⟩, q2⟩ := back β blk b h1 hm
    obtain ⟨⟨_, q3⟩, q4⟩ := back β' blk' b h2 hm'
    exact S.inj β β' _ _ b q1 q3 q2 q4

theorem Sim.weaks {s s' : ASt} {a : Act} {w : World} (h : Weaks s s') : ∀ {m : Nat → Option Nat}, Sim okA w0 s m a w → ∃ m', Sim okA w0 s' m' a w := by
  induction h with
  | refl s => exact fun S => ⟨_, S⟩
  | step h _ ih =>
    intro m S
    obtain ⟨m1, S1⟩ := S.weak h
    exact ih S1

def Ex.toExit : Ex → Exit
  | .normal => .normal
  | .exit id => .exit id
  | .ret => .ret

def PostOf (okA : Nat → Prop) (w0 : Base) (Q : Ex → ASt → Prop) : Exit → Act → World → Prop := fun e a w => ∃ x s m, e = x.toExit ∧ Q x s ∧ Sim okA w0 s m a w

theorem cu_all (L : Nat → Bool) (n : Nat) : cu L n ≤ n := by
  induction n with
  | zero => exact Nat.le_refl _
  | succ n ih => simp only [cu]; split <;> omega
theorem plain_sound {ops : Array Oper} {Q : Ex → ASt → Prop} {s : ASt} (hok : drawOk ops = true) (h : aops P (some ([], [])) ops (Q .normal) ops.toList s) {m : Nat → Option Nat} {a : Act} {w : World} (S : Sim okA w0 s m a w) : wpAny P .any ops (PostOf okA w0 Q) ops.size (Array.replicate ops.size false) a w := by
  obtain ⟨tr, sf, htr, hq⟩ := trace_of_aops ops.toList [] [] s h
  obtain ⟨pl⟩ := plan_of_trace htr
  exact draw_sound (pl := pl) hok (Q := PostOf okA w0 Q) (fun m a w S' => ⟨.normal, sf, m, rfl, hq, S'⟩) _ _ s 0 m a _ (by simp) (inv_start pl) (cu_all _ _) S
theorem late_sound {ops : Array Oper} {Q : Ex → ASt → Prop} {s : ASt} {ka : Nat} (hlate : lateOk ops ka = true) (h : aops P (some ([], [])) (lateOps ops ka) (aops P none (late2 ops ka).toArray (Q .normal) (late2 ops ka)) (lateOps ops ka).toList s) {m : Nat → Option Nat} {a : Act} {w : World} (S : Sim okA w0 s m a w) : wpAny P .any ops (PostOf okA w0 Q) ops.size (Array.replicate ops.size false) a w := by
  obtain ⟨oa, os, dd, T, L⟩ := late_spec hlate
  obtain ⟨tr, sf, htr, hq⟩ := trace_of_aops (lateOps ops ka).toList [] [] s h
  obtain ⟨pl⟩ := plan_of_trace htr
  rw [late2_eq L] at hq
  simp only [aops, L.ag] at hq
  rcases astep_cases hq with ⟨v, s', h1, _, _⟩ | ⟨s1, h1, _, h2⟩ | ⟨_, fx, args, ats, f, cs, e, _⟩
  · exfalso
    rcases h1 with ⟨fx, args, ats, f, cs, as, e, _⟩ | ⟨_, _, e⟩ | ⟨_, _, e⟩
    · rw [L.ao] at e; simp at e
    · unfold avalue at e
      rw [L.ao] at e
      simp at e
    · unfold afroz at e
      rw [L.ao] at e
      simp at e
  case inr.inr => rw [L.ao] at e; simp at e
  simp only [nextD, L.sg] at h2
  rcases h1 with ⟨_, h1⟩ | ⟨fx, args, ats, f, cs, e, _⟩
  case inr => rw [L.ao] at e; simp at e
  unfold aeff at h1
  rw [L.ao, L.ad] at h1
  simp only [aalloc] at h1
  split at h1
  case h_2 => simp at h1
  rename_i i hti
  obtain ⟨inf, dk, z, e1, e2, e3, e4, rfl⟩ := ti_spec hti
  refine draw_late (w0 := w0) (okA := okA) (pl := pl) L (z := z.cells) (zs := z.cells.toList.map absC) (sz := inf.size) (fun ρ w => ?_) (by simp) (fun E => ?_) h1 h2 (Q := PostOf okA w0 Q) (fun _ s' m a w S' hk => ⟨.normal, s', m, rfl, hk.2, S'⟩) S.okA S.K _ _ s 0 a _ (by simp) ?_ (cu_all _ _) (.inl ⟨?_, ?_, m, S⟩)
  · simp [execOp, L.ao, Instr.alloc, zeroValue, typeInfo, e1, e3, newVar, newRow]
  · have := repA_absC E z.cells.toList e4
    rw [List.take_of_length_le (by simp)]
    exact this
  · have := inv_start pl
    rw [late_size] at this
    exact this
  · simp only [Array.getD_eq_getD_getElem?, Array.getElem?_replicate]
    split <;> rfl
  · simp only [Array.getD_eq_getD_getElem?, Array.getElem?_replicate]
    split <;> rfl
theorem regOk_sound {Q : Ex → ASt → Prop} {s : ASt} {ops : Array Oper} (h : RegOk P s (Q .normal) ops) {m : Nat → Option Nat} {a : Act} {w : World} (S : Sim okA w0 s m a w) : wpAny P .any ops (PostOf okA w0 Q) ops.size (Array.replicate ops.size false) a w := by
  induction h with
  | plain hok h => exact plain_sound hok h S
  | late ka hok h => exact late_sound hok h S
  | both i j hok _ _ ih1 ih2 => exact any_two hok ih1 ih2
theorem awp_sound (hmix : P.follows .mixedOrders = true) : ∀ (c : Code) (_ : drawsOk c = true) (Q : Ex → ASt → Prop) (s : ASt), awp P c Q s → ∀ (m : Nat → Option Nat) (a : Act) (w : World), Sim okA w0 s m a w → c.wp P (PostOf okA w0 Q) a w
  | .skip, _, Q, s, h, m, a, w, S => wp_skip ⟨.normal, s, m, rfl, h, S⟩
  | .exit id, _, Q, s, h, m, a, w, S => wp_exit ⟨.exit id, s, m, rfl, h, S⟩
  | .ret, _, Q, s, h, m, a, w, S => wp_ret ⟨.ret, s, m, rfl, h, S⟩
  | .region id ops d, hd, Q, s, h, m, a, w, S => by
    have S0 : Sim okA w0 s m a { w with drawn := w.drawn + 1 } := S.world ⟨rfl, rfl, rfl, Nat.le_refl _, fun _ _ => rfl⟩
    have base : ∀ (s : ASt) (m : Nat → Option Nat), Sim okA w0 s m a w → aops P (drOf d) ops (Q .normal) ops.toList s → (Code.region id ops d).wp P (PostOf okA w0 Q) a w := fun s m S h => by
      have S0 : Sim okA w0 s m a { w with drawn := w.drawn + 1 } := S.world ⟨rfl, rfl, rfl, Nat.le_refl _, fun _ _ => rfl⟩
      cases d with
      | false =>
        refine wp_region ?_
        have := aops_wp (P := P) (ops := ops) (Q := PostOf okA w0 Q) (K := Q .normal) (fun s' m' a' w' S' h' => ⟨.normal, s', m', rfl, h', S'⟩) ops.toList 0 s m a w (by simp) S h
        simpa [List.range_eq_range'] using this
      | true => exact wp_region_any hmix (plain_sound (by simpa [drawsOk] using hd) h S0)
    simp only [awp] at h
    split at h
    case h_2 ka hka =>
      split at h
      · obtain ⟨rfl, hlate, h⟩ := h
        exact wp_region_any hmix (late_sound hlate h S0)
      · split at h
        · obtain ⟨rfl, h⟩ := h
          exact wp_region_any hmix (regOk_sound h S0)
        · obtain ⟨s', hw, h⟩ := h
          obtain ⟨m2, S2⟩ := Sim.weaks hw S
          exact base s' m2 S2 h
    exact base s m S h
  | .seq x y, hd, Q, s, h, m, a, w, S => by
    simp only [drawsOk, Bool.and_eq_true] at hd
    refine wp_seq (wp_mono (awp_sound hmix x hd.1 _ s h m a w S) ?_)
    rintro e a' w' ⟨ex, s', m', rfl, hq, S'⟩
    cases ex with
    | normal => exact awp_sound hmix y hd.2 Q s' hq m' a' w' S'
    | exit id => exact ⟨.exit id, s', m', rfl, hq, S'⟩
    | ret => exact ⟨.ret, s', m', rfl, hq, S'⟩
  | .cond c x y, hd, Q, s, h, m, a, w, S => by
    simp only [drawsOk, Bool.and_eq_true] at hd
    simp only [awp, condP] at h
    split at h
    · rename_i b hb
      have he := S.eval c
      rw [hb] at he
      refine wp_cond_split he.2 (fun hb => awp_sound hmix x hd.1 Q s (h.1 hb) m a w S) (fun hb => awp_sound hmix y hd.2 Q s (h.2 hb) m a w S)
    · rename_i hb
      have he := S.eval c
      rw [hb] at he
      obtain ⟨b, he⟩ := he
      exact wp_cond_split he (fun _ => awp_sound hmix x hd.1 Q s h.1 m a w S) (fun _ => awp_sound hmix y hd.2 Q s h.2 m a w S)
    · exact h.elim
  | .block id c, hd, Q, s, h, m, a, w, S => by
    simp only [drawsOk] at hd
    refine wp_block (wp_mono (awp_sound hmix c hd _ s h m a w S) ?_)
    rintro e a' w' ⟨ex, s', m', rfl, hq, S'⟩
    cases ex with
    | normal => exact ⟨.normal, s', m', rfl, hq, S'⟩
    | ret => exact ⟨.ret, s', m', rfl, hq, S'⟩
    | exit i =>
      simp only [inBlockA] at hq
      show Exit.inBlock id _ (.exit i) a' w'
      simp only [Exit.inBlock]
      split at hq
      · rename_i hi; rw [if_pos hi]; exact ⟨.normal, s', m', rfl, hq, S'⟩
      · rename_i hi; rw [if_neg hi]; exact ⟨.exit i, s', m', rfl, hq, S'⟩
  | .loop c, hd, Q, s, h, m, a, w, S => by
    simp only [drawsOk] at hd
    obtain ⟨ι, I, μ, x, V, hV, hwk, hround⟩ := h
    obtain ⟨m1, S1⟩ := S.weak hwk
    refine wp_loop_ghost (fun n a w => ∃ x m, μ x = n ∧ Sim okA w0 (I x) m a w) (μ x) ⟨x, m1, rfl, S1⟩ ?_
    rintro n a w ⟨y, m2, rfl, S2⟩
    refine wp_mono (awp_sound hmix c hd _ (I y) (hround y) m2 a w S2) ?_
    rintro e a' w' ⟨ex, s', m', rfl, hq, S'⟩
    cases ex with
    | normal =>
      obtain ⟨z, hw, hlt⟩ := hq
      obtain ⟨m3, S3⟩ := S'.weak hw
      exact ⟨μ z, hlt, z, m3, rfl, S3⟩
    | exit id =>
      obtain ⟨s2, hw2, hq2⟩ := hV _ _ hq
      obtain ⟨m2, S2⟩ := Sim.weaks hw2 S'
      exact ⟨.exit id, s2, m2, rfl, hq2, S2⟩
    | ret =>
      obtain ⟨s2, hw2, hq2⟩ := hV _ _ hq
      obtain ⟨m2, S2⟩ := Sim.weaks hw2 S'
      exact ⟨.ret, s2, m2, rfl, hq2, S2⟩
  | .rangeFunc .., _, _, _, h, _, _, _, _ => h.elim
  | .scope .., _, _, _, h, _, _, _, _ => h.elim
  | .label .., _, _, _, h, _, _, _, _ => h.elim
  | .goto .., _, _, _, h, _, _, _, _ => h.elim
  | .refuse .., _, _, _, h, _, _, _, _ => h.elim

mutual
theorem lens_rep {E : Env} : ∀ {t : AVal} {v : Value}, RepV E t v → t.tree = true → lens t
  | .lst cells n, _, ⟨a, c, _, h1, h2, h3⟩, ht => ⟨Nat.le_trans h1 h2, by
      rcases h3 with h3 | ⟨b, off, _, _, hc⟩
      · rw [h3]; trivial
      · exact lensC_rep hc (by simpa [AVal.tree] using ht)⟩
  | .agg cs, _, ⟨vs, _, hl⟩, ht => lensA_rep hl (by simpa [AVal.tree] using ht)
  | .tup cs, _, ⟨vs, _, hl⟩, ht => lensL_rep hl (by simpa [AVal.tree] using ht)
  | .iptr cells _, _, ⟨_, _, _, _, hc⟩, ht => lensC_rep hc (by simpa [AVal.tree] using ht)
  | .clo _ cs, _, ⟨vs, _, hl⟩, ht => lensL_rep hl (by simpa [AVal.tree] using ht)
  | .bnd _ cs, _, ⟨vs, _, hl⟩, ht => lensL_rep hl (by simpa [AVal.tree] using ht)
  | .flat _, _, _, _ => trivial
  | .row _, _, _, _ => trivial
  | .nl, _, _, _ => trivial
  | .own _ _ _ _, _, _, _ => trivial
  | .ptr _ _ _, _, _, _ => trivial
  | .kin _, _, _, _ => trivial
  | .anyb, _, _, _ => trivial
  | .dead, _, _, _ => trivial
theorem lensL_rep {E : Env} : ∀ {cs : List AVal} {vs : List Value}, RepL E cs vs → treeL cs = true → lensL cs
  | [], _, _, _ => trivial
  | c :: cs, _, ⟨v, r, _, hv, hl⟩, ht => by
    simp only [treeL, Bool.and_eq_true] at ht
    exact ⟨lens_rep hv ht.1, lensL_rep hl ht.2⟩
theorem lensA_rep {E : Env} : ∀ {cs : List AVal} {vs : List Value}, RepA E cs vs → treeL cs = true → lensL cs
  | [], _, _, _ => trivial
  | c :: cs, _, ⟨v, r, _, _, hv, hl⟩, ht => by
    simp only [treeL, Bool.and_eq_true] at ht
    exact ⟨lens_rep hv ht.1, lensA_rep hl ht.2⟩
theorem lensC_rep {E : Env} : ∀ {cs : List AVal} {b off : Nat}, RepC E cs b off → treeL cs = true → lensL cs
  | [], _, _, _, _ => trivial
  | c :: cs, _, _, ⟨⟨v, _, _, hv⟩, hl⟩, ht => by
    simp only [treeL, Bool.and_eq_true] at ht
    exact ⟨lens_rep hv ht.1, lensC_rep hl ht.2⟩
end

theorem ares_sound {s : ASt} {m : Nat → Option Nat} {a : Act} {w : World} (S : Sim okA w0 s m a w) : ∀ {rs : List ResultVar} {l : List AVal}, ares P s rs = some l →
    ∃ vs : List Value, RepL (envOf okA w0.new s.heap s.gen m w) l vs ∧ (rs.mapM (fun r => match r with
      | .tmp t => pure (a.tmps.getD t undef)
      | .cell x t => do loadVar t (← asAddr (a.tmps.getD x undef)) : ResultVar → Sem Value)).run P w = .ok vs w
  | [], l, h => by simp [ares] at h; subst h; exact ⟨[], rfl, by simp⟩
  | .tmp t :: rs, l, h => by
    simp only [ares] at h
    split at h
    case h_2 => simp at h
    rename_i l' hl'
    simp only [Option.some.injEq] at h
    subst h
    obtain ⟨vs, hr, hrun⟩ := ares_sound S hl'
    exact ⟨_ :: vs, ⟨_, vs, rfl, S.tmps t, hr⟩, by simp only [List.mapM_cons, Sem.run_bind, Sem.run_pure, Result.andThen_ok, hrun]⟩
  | .cell x t :: rs, l, h => by
    simp only [ares] at h
    split at h
    case h_2 => simp at h
    rename_i v l' hv hl'
    simp only [Option.some.injEq] at h
    subst h
    obtain ⟨vs, hr, hrun⟩ := ares_sound S hl'
    obtain ⟨ad, he, u, hu, hload⟩ := S.load hv (S.tmps x)
    have hA : (asAddr (a.tmps.getD x undef)).run P w = .ok ad w := by rw [he]; rfl
    exact ⟨u :: vs, ⟨u, vs, rfl, hu, hr⟩, by simp only [List.mapM_cons, Sem.run_bind, hA, Sem.run_pure, Result.andThen_ok, hload w (fun b _ => rfl), hrun]⟩

mutual
theorem xlens_rep {E : Env} : ∀ {t : XT} {v : Value} {S : List Nat}, RepX E t v S → xlens t
  | .v a, _, _, ⟨_, ht, hr⟩ => lens_rep hr ht
  | .ol sz cells n, _, _, ⟨hcl, a, c, _, hn, hc, hcc⟩ => ⟨Nat.le_trans hn hc, by
      rcases hcc with ⟨h0, _⟩ | ⟨_, b, S', vs, _, _, _, hL, _⟩
      · have : cells = [] := List.eq_nil_of_length_eq_zero (by rw [hcl, show n = 0 by omega]; simp)
        rw [this]; trivial
      · exact xlensL_rep hL⟩
  | .op cells, _, _, ⟨b, S', vs, _, _, _, hL, _⟩ => xlensL_rep hL
  | .agg cs, _, _, ⟨vs, _, hL⟩ => xlensL_rep hL
  | .tup cs, _, _, ⟨vs, _, hL⟩ => xlensL_rep hL
theorem xlensL_rep {E : Env} : ∀ {cs : List XT} {vs : List Value} {one : Bool} {S : List Nat}, RepXL E one cs vs S → xlensL cs
  | [], _, _, _, _ => trivial
  | _c :: _cs, _, _, _, ⟨_v, _r, _S1, _S2, _, _, _, hc, hL⟩ => ⟨xlens_rep hc, xlensL_rep hL⟩
end

/-- what the results' variables hold, as one value -/
theorem one_sound {fn : Func} {s : ASt} {m : Nat → Option Nat} {a : Act} {w : World} (S : Sim okA w0 s m a w) {r : List AVal} (hr : ares P s fn.results.toList = some r) :
    ∃ v, (results fn a.tmps).run P w = .ok v w ∧ RepV (envOf okA w0.new s.heap s.gen m w) (one r) v := by
  obtain ⟨us, hrep', hrun⟩ := ares_sound S hr
  have hm : (fn.results.mapM (fun r => match r with
      | .tmp t => pure (a.tmps.getD t undef)
      | .cell x t => do loadVar t (← asAddr (a.tmps.getD x undef)) : ResultVar → Sem Value)).run P w = .ok us.toArray w := by
    rw [Array.mapM_eq_mapM_toList]
    simp only [Sem.run_map, hrun, Result.andThen_ok]
  have hres : (results fn a.tmps).run P w = .ok (if h : us.toArray.size = 1 then us.toArray[0] else .tuple us.toArray) w := by
    unfold results
    rw [Sem.run_bind]
    have hm' := hm
    erw [hm']
    rfl
  refine ⟨_, hres, ?_⟩
  have hlr := repL_length hrep'
  match r, us, hrep', hlr with
  | [], [], h, _ => exact ⟨[], rfl, h⟩
  | [x], [u], h, _ =>
    obtain ⟨v, r, e, hv, _⟩ := h
    simp only [List.cons.injEq] at e
    simpa [one, e.1] using hv
  | x :: y :: r, u :: v :: q, h, _ => exact ⟨u :: v :: q, by simp, h⟩

theorem Sim.ghost {s : ASt} {m : Nat → Option Nat} {a : Act} {w : World} (S : Sim okA w0 s m a w) (gh : Gh) : Sim okA w0 { s with gh := gh } m a w :=
  ⟨S.size, S.defers, S.tmps, S.pins, S.blks, S.inj, S.below, S.okA, S.K⟩
theorem den_of_awpG (gh : Gh) {f : FuncId} {fn : Func} {c : Code} {args : List AVal} {t : AVal} (hf : P.funcs[f]? = some fn) (hb : fn.body = some c) (hn : (fn.name == "runtime.NumGoroutine") = false)
    (ha : args.length ≤ fn.ntmps) (hta : treeL args = true) (ht : t.tree = true) (hmix : P.follows .mixedOrders = true) (hd : drawsOk c = true) (h : lensL args → awp P c (apost P fn t) { init fn.ntmps args with gh := gh }) : Den P f args t := by
  refine ⟨⟨fn, hf, by simp [hb], hn⟩, ht, fun w vs ok hok hglob hrep => ?_⟩
  have hl := repL_length hrep
  have S : Sim ok ⟨w, fun _ => False, []⟩ (init fn.ntmps args) (fun _ => none) { tmps := vs.toArray ++ Array.replicate (fn.ntmps - vs.toArray.size) undef, defers := [] } w := by
    refine ⟨?_, rfl, fun t => ?_, fun p hp => (hglob.tree (E' := envOf ok (Base.new ⟨w, fun _ => False, []⟩) (fun _ => none) 0 (fun _ => none) w) fun b hb => ⟨⟨hok b hb, .inl hb, fun β blk h => by simp at h⟩, rfl⟩) p (by simpa using hp), fun β blk h => by simp [init] at h, fun β β' blk blk' b h => by simp [init] at h, BelowB.refl _ _ _, fun b hb => ⟨hok b hb, id⟩, fun b hb => hb.elim⟩
    · simp [init]; omega
    · simp only [init]
      by_cases hlt : t < args.length
      · obtain ⟨v, hv, hr⟩ := repL_get hrep (i := t) (c := args[t]) (by simp [hlt])
        have e1 : args.getD t .dead = args[t] := by simp [List.getD, hlt]
        have e2 : (vs.toArray ++ Array.replicate (fn.ntmps - vs.toArray.size) undef).getD t undef = v := by
          have hlt' : t < vs.length := by omega
          rw [Array.getD_eq_getD_getElem?, Array.getElem?_append_left (by simpa using hlt')]
          simp [hv]
        rw [e1, e2]
        have hmem : args[t] ∈ args := List.getElem_mem hlt
        exact repV_tree (E := treeEnv w ok) (E' := envOf ok (Base.new ⟨w, fun _ => False, []⟩) (fun _ => none) 0 (fun _ => none) w) (fun b hb => ⟨⟨hok b hb, .inl hb, fun β blk h => by simp at h⟩, rfl⟩) _ _ ((treeL_iff _).1 hta _ hmem) hr
      · have e1 : args.getD t .dead = .dead := by simp [List.getD, List.getElem?_eq_none (Nat.le_of_not_lt hlt)]
        rw [e1]
        trivial
  refine calls_of_wp hf hb (wp_mono (awp_sound hmix c hd _ _ (h (lensL_rep hrep hta)) _ _ _ (S.ghost gh)) ?_)
  rintro e a' w' ⟨x, s', m', rfl, hq, S'⟩
  have fin : (∃ r, ares P s' fn.results.toList = some r ∧ snap 6 s' (one r) = some t) → a'.defers = [] ∧ ∃ v, (results fn a'.tmps).run P w' = .ok v w' ∧
      ∃ v', Ending.returned v = .returned v' ∧ RepV (treeEnv w' fun b => ok b ∨ (w.heap.size ≤ b ∧ b < w'.heap.size)) t v' ∧ Below w.heap.size w w' := by
    rintro ⟨r, hr, hsn⟩
    obtain ⟨us, hrep', hrun⟩ := ares_sound S' hr
    have hone : ∃ v, (results fn a'.tmps).run P w' = .ok v w' ∧ RepV (envOf ok (Base.new ⟨w, fun _ => False, []⟩) s'.heap s'.gen m' w') (one r) v := by
      have hm : (fn.results.mapM (fun r => match r with
          | .tmp t => pure (a'.tmps.getD t undef)
          | .cell x t => do loadVar t (← asAddr (a'.tmps.getD x undef)) : ResultVar → Sem Value)).run P w' = .ok us.toArray w' := by
        rw [Array.mapM_eq_mapM_toList]
        simp only [Sem.run_map, hrun, Result.andThen_ok]
      have hres : (results fn a'.tmps).run P w' = .ok (if h : us.toArray.size = 1 then us.toArray[0] else .tuple us.toArray) w' := by
        unfold results
        rw [Sem.run_bind]
        have hm' := hm
        erw [hm']
        rfl
      refine ⟨_, hres, ?_⟩
      have hlr := repL_length hrep'
      match r, us, hrep', hlr with
      | [], [], h, _ => exact ⟨[], rfl, h⟩
      | [x], [u], h, _ =>
        obtain ⟨v, r, e, hv, _⟩ := h
        simp only [List.cons.injEq] at e
        simpa [one, e.1] using hv
      | x :: y :: r, u :: v :: q, h, _ => exact ⟨u :: v :: q, by simp, h⟩
    obtain ⟨v, hv1, hv2⟩ := hone
    refine ⟨S'.defers, v, hv1, v, rfl, (snap_sound S' (fun b hb => ?_) false (fun _ _ h => h) (fun _ β blk b hβ hm => by obtain ⟨h1, ⟨arr, T, hh, _⟩, _⟩ := (S'.blks β blk hβ).real b hm; exact .inr ⟨h1.resolve_right id, heap_lt hh⟩) 6 _ _ v hsn (fun h => by simp at h) hv2).1, S'.below.below⟩
    rcases hb.2.1 with h | h
    · exact .inl h
    · exact .inr ⟨h.resolve_right id, hb.1⟩
  cases x with
  | normal => exact fin hq
  | ret => exact fin hq
  | exit id => exact hq.elim

theorem embA_gens : ∀ (cs : List XT) (i : Nat), ∀ p ∈ (embA i cs).2, p.2.gen = 0
  | [], i, p, h => by simp [embA] at h
  | c :: cs, i, p, h => by
    simp only [embA, List.mem_append] at h
    rcases h with h | h
    · exact emb_gens c _ p h
    · exact embA_gens cs (i + 1) p h
theorem embA_length : ∀ (cs : List XT) (i : Nat), (embA i cs).1.length = cs.length
  | [], _ => rfl
  | c :: cs, i => by simp [embA, embA_length cs (i + 1)]
theorem embA_sound {w' : World} {ok' : Nat → Prop} : ∀ (cs : List XT) (i : Nat) (vs : List Value) (S : List Nat), RepXL (treeEnv w' ok') false cs vs S → ∃ Z : Zs, Z.map (·.1) = (embA i cs).2 ∧ Z.filterMap (·.2) = S ∧
    ∀ E' : Env, E'.w = w' → (∀ b, ok' b → E'.ok b) → 0 < E'.gen → (∀ z ∈ Z, E'.loc z.1.1 0 = some (z.2, z.1.2.size)) → RepL E' (embA i cs).1 vs ∧ ∀ z ∈ Z, GoodZ E' z
  | [], i, vs, S, ⟨hv, hS⟩ => ⟨[], rfl, hS.symm, fun E' _ _ _ _ => ⟨hv, by simp⟩⟩
  | c :: cs, i, vs, S, ⟨v, r, S1, S2, hvs, hS, _, hc, hL⟩ => by
    subst hvs hS
    obtain ⟨Z1, a1, a2, a3⟩ := emb_sound (G := 0) c i v S1 hc
    obtain ⟨Z2, b1, b2, b3⟩ := embA_sound cs (i + 1) r S2 hL
    refine ⟨Z1 ++ Z2, by simp [embA, a1, b1], by simp [a2, b2], fun E' hw hok hg hloc => ?_⟩
    obtain ⟨p1, p2⟩ := a3 E' hw hok hg fun z hz => hloc z (by simp [hz])
    obtain ⟨q1, q2⟩ := b3 E' hw hok hg fun z hz => hloc z (by simp [hz])
    refine ⟨⟨v, r, rfl, p1, q1⟩, fun z hz => ?_⟩
    rcases List.mem_append.1 hz with hz | hz
    · exact p2 z hz
    · exact q2 z hz

/-- A CONTRACT THAT HANDS MEMORY OVER, from a walk -/
theorem denQ_of_awpG (gh : Gh) {f : FuncId} {fn : Func} {c : Code} {args : List XT} {ι : Type} {p : ι → Prop} {args'' : ι → List XT} {t'' : ι → XT} {Q : Ex → ASt → Prop} (hf : P.funcs[f]? = some fn) (hb : fn.body = some c) (hn : (fn.name == "runtime.NumGoroutine") = false)
    (ha : args.length ≤ fn.ntmps) (hU : ((embA 0 args).2.map (·.1)).Nodup) (hmix : P.follows .mixedOrders = true) (hd : drawsOk c = true)
    (hQ : ∀ e s, Q e s → (e = .normal ∨ e = .ret) ∧ ∃ s', Weaks s s' ∧ ∃ i, p i ∧ ∃ r, ares P s' fn.results.toList = some r ∧ XPost s' (embA 0 args).1 (args'' i) (one r) (t'' i))
    (h : xlensL args → awp P c Q { initX fn.ntmps args with gh := gh }) : DenY P f args p args'' t'' := by
  refine ⟨⟨fn, hf, by simp [hb], hn⟩, fun w vs ok S hok hSlt hSn hglob hrep => ?_⟩
  obtain ⟨Z, hZ1, hZ2, hZ3⟩ := embA_sound args 0 vs S hrep
  have hZn : (Z.map (·.1.1)).Nodup := by
    have : Z.map (·.1.1) = (embA 0 args).2.map (·.1) := by rw [← hZ1, List.map_map]; rfl
    rw [this]; exact hU
  let m : Nat → Option Nat := fun β => match lookupZ Z β with | some r => r | none => none
  have hh : (initX fn.ntmps args).heap = lookupU (Z.map (·.1)) := by rw [hZ1]; rfl
  have inZ : ∀ z ∈ Z, m z.1.1 = z.2 ∧ (initX fn.ntmps args).heap z.1.1 = some z.1.2 := fun z hz => by
    obtain ⟨q1, q2⟩ := lookup_of_mem hZn z hz
    refine ⟨?_, by rw [hh]; exact q1⟩
    show (match lookupZ Z z.1.1 with | some r => r | none => none) = z.2
    rw [q2]
  have outZ : ∀ β blk, (initX fn.ntmps args).heap β = some blk → ∃ z ∈ Z, z.1 = (β, blk) ∧ m β = z.2 := fun β blk hβ => by
    rw [hh] at hβ
    obtain ⟨z, q1, q2, q3⟩ := lookup_mem hβ
    refine ⟨z, q1, q2, ?_⟩
    show (match lookupZ Z β with | some r => r | none => none) = z.2
    rw [q3]
  have hgens : ∀ z ∈ Z, z.1.2.gen = 0 := fun z hz => embA_gens args 0 _ (by rw [← hZ1]; exact List.mem_map.2 ⟨z, hz, rfl⟩)
  have hmem : ∀ z ∈ Z, ∀ b, z.2 = some b → b ∈ S := fun z hz b hb => by rw [← hZ2]; exact List.mem_filterMap.2 ⟨z, hz, hb⟩
  let B : Base := ⟨w, fun b => b ∈ S, (embA 0 args).1.zip vs⟩
  have hokE0 : ∀ b, ok b → (envOf ok B.new (initX fn.ntmps args).heap 1 m w).ok b := fun b hb => ⟨(hok b hb).1, .inl hb, fun β blk hβ hm => by
      obtain ⟨z, q1, _, q3⟩ := outZ β blk hβ
      exact (hok b hb).2 (hmem z q1 b (q3 ▸ hm))⟩
  obtain ⟨hL, hG⟩ := hZ3 (envOf ok B.new (initX fn.ntmps args).heap 1 m w) rfl hokE0 (Nat.zero_lt_one) fun z hz => by
    obtain ⟨q1, q2⟩ := inZ z hz
    simp only [envOf, q2, q1, hgens z hz, if_true]
  have hl := repL_length hL
  have hla := embA_length args 0
  have Sm : Sim ok B (initX fn.ntmps args) m { tmps := vs.toArray ++ Array.replicate (fn.ntmps - vs.toArray.size) undef, defers := [] } w := by
    refine ⟨?_, rfl, fun t => ?_, fun p hp => ?_, fun β blk hβ => ?_, fun β β' blk blk' b hβ hβ' hm hm' => ?_, BelowB.refl _ _ _, fun b hb => ⟨(hok b hb).1, fun h => (hok b hb).2 h⟩, fun b hb => hSlt b hb⟩
    · simp [initX]; omega
    · simp only [initX]
      by_cases hlt : t < (embA 0 args).1.length
      · obtain ⟨v, hv, hr⟩ := repL_get hL (i := t) (c := (embA 0 args).1[t]) (by simp [hlt])
        have e1 : (embA 0 args).1.getD t .dead = (embA 0 args).1[t] := by simp [List.getD, hlt]
        have e2 : (vs.toArray ++ Array.replicate (fn.ntmps - vs.toArray.size) undef).getD t undef = v := by
          have hlt' : t < vs.length := by omega
          rw [Array.getD_eq_getD_getElem?, Array.getElem?_append_left (by simpa using hlt')]
          simp [hv]
        rw [e1, e2]
        exact hr
      · have e1 : (embA 0 args).1.getD t .dead = .dead := by simp [List.getD, List.getElem?_eq_none (Nat.le_of_not_lt hlt)]
        rw [e1]
        trivial
    · rcases List.mem_append.1 hp with hp | hp
      case inr => exact (hglob.tree (E' := envOf ok B.new (initX fn.ntmps args).heap 1 m w) fun b hb => ⟨hokE0 b hb, rfl⟩) p hp
      obtain ⟨i, hi, e⟩ := List.getElem_of_mem hp
      rw [List.getElem_zip] at e
      subst e
      obtain ⟨v, hv, hr⟩ := repL_get hL (i := i) (c := (embA 0 args).1[i]'(by simp [B] at hi; omega)) (by simp)
      rw [List.getElem?_eq_getElem (by simp [B] at hi; omega)] at hv
      simp only [Option.some.injEq] at hv
      rw [← hv] at hr
      exact hr
    · obtain ⟨z, q1, q2, q3⟩ := outZ β blk hβ
      obtain ⟨g1, g2⟩ := hG z q1
      rw [q2] at g1 g2
      have hg := hgens z q1
      rw [q2] at hg
      refine ⟨by show blk.gen < 1; simp only at hg; omega, fun hv => g1 (by rw [← q3]; exact hv), fun b hb => ?_⟩
      rw [q3] at hb
      obtain ⟨p1, p2⟩ := g2 b hb
      exact ⟨.inr (hmem z q1 b hb), p1, p2⟩
    · obtain ⟨z, q1, q2, q3⟩ := outZ β blk hβ
      obtain ⟨z', q1', q2', q3'⟩ := outZ β' blk' hβ'
      have := real_inj (by rw [hZ2]; exact hSn) z q1 z' q1' (q3 ▸ hm) (q3' ▸ hm')
      have e1 : z.1.1 = β := by rw [q2]
      have e2 : z'.1.1 = β' := by rw [q2']
      rw [← e1, ← e2, this]
  refine calls_of_wp hf hb (wp_mono (awp_sound hmix c hd _ _ (h (xlensL_rep hrep)) _ _ _ (Sm.ghost gh)) ?_)
  rintro e a' w' ⟨x, s0', m0', rfl, hq, S0'⟩
  have fin : (∃ s', Weaks s0' s' ∧ ∃ i, p i ∧ ∃ r, ares P s' fn.results.toList = some r ∧ XPost s' (embA 0 args).1 (args'' i) (one r) (t'' i)) → a'.defers = [] ∧ ∃ v, (results fn a'.tmps).run P w' = .ok v w' ∧
      ∃ i, p i ∧ ∃ v' S1 S2, Ending.returned v = .returned v' ∧ RepXL (treeEnv w' fun b => b < w'.heap.size ∧ b ∉ S1 ++ S2 ∧ (ok b ∨ b ∈ S ∨ w.heap.size ≤ b)) false (args'' i) vs S1 ∧
      RepX (treeEnv w' fun b => b < w'.heap.size ∧ b ∉ S1 ++ S2 ∧ (ok b ∨ b ∈ S ∨ w.heap.size ≤ b)) (t'' i) v' S2 ∧
      (S1 ++ S2).Nodup ∧ (∀ b ∈ S1 ++ S2, b < w'.heap.size ∧ (b ∈ S ∨ w.heap.size ≤ b)) ∧ BelowB ⟨w, fun b => b ∈ S, []⟩ w' := by
    rintro ⟨s', hwk, idx, hidx, r, hr, hN, hX, hY⟩
    obtain ⟨m', S'⟩ := Sim.weaks hwk S0'
    obtain ⟨v, hv1, hv2⟩ := one_sound S' hr
    refine ⟨S'.defers, v, hv1, idx, hidx, ?_⟩
    generalize args'' idx = args' at *
    generalize t'' idx = t at *
    refine ⟨v, (xnL s' (embA 0 args).1 args').filterMap m', (xn s' (one r) t).filterMap m', rfl, ?_⟩
    have happ : (xnL s' (embA 0 args).1 args').filterMap m' ++ (xn s' (one r) t).filterMap m' = (postN s' (embA 0 args).1 args' (one r) t).filterMap m' := by
      unfold postN; rw [List.filterMap_append]
    rw [happ]
    generalize hNe : postN s' (embA 0 args).1 args' (one r) t = N at *
    have hNh : ∀ β ∈ N, ∃ blk, s'.heap β = some blk := fun β hβ => by
      rw [← hNe] at hβ
      rcases List.mem_append.1 hβ with hβ | hβ
      · exact xnL_heap s' args' _ β hβ
      · exact xn_heap s' t _ β hβ
    have hS0 : ∀ b ∈ N.filterMap m', ∃ β ∈ N, m' β = some b := fun b hb => by simpa using List.mem_filterMap.1 hb
    have hokE : ∀ b, (envOf ok B.new s'.heap s'.gen m' w').ok b → b < w'.heap.size ∧ b ∉ N.filterMap m' ∧ (ok b ∨ b ∈ S ∨ w.heap.size ≤ b) := fun b hb => by
      refine ⟨hb.1, fun hm => ?_, hb.2.1.imp id fun h => h.symm⟩
      obtain ⟨β, hβ, hmb⟩ := hS0 b hm
      obtain ⟨blk, hblk⟩ := hNh β hβ
      exact hb.2.2 β blk hblk hmb
    have hownE : ∀ β blk b, (s'.without N).heap β = some blk → m' β = some b → b < w'.heap.size ∧ b ∉ N.filterMap m' ∧ (ok b ∨ b ∈ S ∨ w.heap.size ≤ b) := fun β blk b hβ hm => by
      obtain ⟨q1, q2⟩ := without_sub β blk hβ
      obtain ⟨p1, ⟨arr, T, p2, _⟩, _⟩ := (S'.blks β blk q1).real b hm
      refine ⟨heap_lt p2, fun hmem => ?_, .inr p1.symm⟩
      obtain ⟨β', hβ', hm'⟩ := hS0 b hmem
      obtain ⟨blk', hblk'⟩ := hNh β' hβ'
      exact q2 (S'.inj β β' blk blk' b q1 hblk' hm hm' ▸ hβ')
    have hpins : RepL (envOf ok B.new s'.heap s'.gen m' w') (embA 0 args).1 vs := by
      have key : ∀ (as : List AVal) (us : List Value), as.length = us.length → (∀ p ∈ as.zip us, RepV (envOf ok B.new s'.heap s'.gen m' w') p.1 p.2) → RepL (envOf ok B.new s'.heap s'.gen m' w') as us := by
        intro as
        induction as with
        | nil => intro us hl _; exact List.eq_nil_of_length_eq_zero (by simpa using hl.symm)
        | cons x as ih =>
          intro us hl hp
          cases us with
          | nil => simp at hl
          | cons u us => exact ⟨u, us, rfl, hp (x, u) (by simp), ih us (by simpa using hl) fun p hp' => hp p (by simp [hp'])⟩
      exact key _ _ hl fun p hp => S'.pins p (List.mem_append_left _ hp)
    refine ⟨?_, ?_, ?_, ?_, ?_⟩
    · exact xvl_sound S' hokE (sm := s'.without N) (fun β blk h => (without_sub β blk h).1) false (fun _ => hownE) args' _ vs false hX (fun h => by simp at h) hpins (fun h => by simp at h)
    · exact xv_sound S' hokE (sm := s'.without N) (fun β blk h => (without_sub β blk h).1) false (fun _ => hownE) t _ v hY (fun h => by simp at h) hv2
    · exact nodup_real hN fun β hβ β' hβ' b hm hm' => by
        obtain ⟨blk, hb⟩ := hNh β hβ
        obtain ⟨blk', hb'⟩ := hNh β' hβ'
        exact S'.inj β β' blk blk' b hb hb' hm hm'
    · intro b hb
      obtain ⟨β, hβ, hm⟩ := hS0 b hb
      obtain ⟨blk, hblk⟩ := hNh β hβ
      obtain ⟨p1, ⟨arr, T, p2, _⟩, _⟩ := (S'.blks β blk hblk).real b hm
      exact ⟨heap_lt p2, p1.symm⟩
    · exact ⟨S'.below.os, S'.below.tape, S'.below.output, S'.below.size, S'.below.block, S'.below.room⟩
  obtain ⟨hx, hq2⟩ := hQ _ _ hq
  have hfin := fin hq2
  cases x with
  | normal => exact hfin
  | ret => exact hfin
  | exit id => exact absurd hx (by simp)

theorem denx_of_awpG (gh : Gh) {f : FuncId} {fn : Func} {c : Code} {args args' : List XT} {t : XT} (hf : P.funcs[f]? = some fn) (hb : fn.body = some c) (hn : (fn.name == "runtime.NumGoroutine") = false)
    (ha : args.length ≤ fn.ntmps) (hU : ((embA 0 args).2.map (·.1)).Nodup) (hmix : P.follows .mixedOrders = true) (hd : drawsOk c = true)
    (h : xlensL args → awp P c (apostX P fn (embA 0 args).1 args' t) { initX fn.ntmps args with gh := gh }) : DenX P f args args' t := by
  have := denQ_of_awpG (ι := Unit) (p := fun _ => True) (args'' := fun _ => args') (t'' := fun _ => t) gh hf hb hn ha hU hmix hd (Q := apostX P fn (embA 0 args).1 args' t) (fun e s hq => by
    cases e with
    | normal => exact ⟨.inl rfl, s, .refl s, (), trivial, hq⟩
    | ret => exact ⟨.inr rfl, s, .refl s, (), trivial, hq⟩
    | exit id => exact hq.elim) h
  exact ⟨this.1, fun w vs ok S h1 h2 h3 h4 h5 => (this.2 w vs ok S h1 h2 h3 h4 h5).mono fun _ _ ⟨_, _, h⟩ => h⟩
/-- the result of a walk, one of many -/
def apostY (P : Program) (fn : Func) (as : List AVal) {ι : Type} (p : ι → Prop) (args' : ι → List XT) (t : ι → XT) : Ex → ASt → Prop
  | .normal, s | .ret, s => ∃ s', Weaks s s' ∧ ∃ i, p i ∧ ∃ r, ares P s' fn.results.toList = some r ∧ XPost s' as (args' i) (one r) (t i)
  | _, _ => False
theorem denY_of_awpG (gh : Gh) {f : FuncId} {fn : Func} {c : Code} {args : List XT} {ι : Type} {p : ι → Prop} {args' : ι → List XT} {t : ι → XT} (hf : P.funcs[f]? = some fn) (hb : fn.body = some c) (hn : (fn.name == "runtime.NumGoroutine") = false)
    (ha : args.length ≤ fn.ntmps) (hU : ((embA 0 args).2.map (·.1)).Nodup) (hmix : P.follows .mixedOrders = true) (hd : drawsOk c = true)
    (h : xlensL args → awp P c (apostY P fn (embA 0 args).1 p args' t) { initX fn.ntmps args with gh := gh }) : DenY P f args p args' t :=
  denQ_of_awpG gh hf hb hn ha hU hmix hd (Q := apostY P fn (embA 0 args).1 p args' t) (fun e s hq => by
    cases e with
    | normal => exact ⟨.inl rfl, hq⟩
    | ret => exact ⟨.inr rfl, hq⟩
    | exit id => exact hq.elim) h

mutual
theorem freeze_rep {w' : World} {ok ok' : Nat → Prop} (hok : ∀ b, ok b → ok' b) : ∀ (t : XT) (v : Value) (S : List Nat), (∀ b ∈ S, ok' b) → RepX (treeEnv w' ok) t v S → RepV (treeEnv w' ok') t.freeze v ∧ t.freeze.tree = true
  | .v a, v, S, _, ⟨_, ht, hr⟩ => ⟨repV_tree (E := treeEnv w' ok) (E' := treeEnv w' ok') (fun b hb => ⟨hok b hb, rfl⟩) a v ht hr, ht⟩
  | .ol sz cells n, v, S, hS, ⟨hcl, ad, c, hv, hn, hc, hcc⟩ => by
    rcases hcc with ⟨h0, _⟩ | ⟨_, b, S', vs, rfl, rfl, hh, hL, hcell⟩
    · have : cells = [] := List.eq_nil_of_length_eq_zero (by rw [hcl, show n = 0 by omega]; simp)
      subst this
      exact ⟨⟨ad, c, hv, hn, hc, .inl rfl⟩, rfl⟩
    · obtain ⟨h1, h2, h3⟩ := freezeL_rep hok cells vs S' true (fun b hb => hS b (by simp [hb])) hL
      exact ⟨⟨_, c, hv, hn, hc, .inr ⟨b, 0, rfl, hS b (by simp), repC_of (repA_of_L h1 (h3 rfl)) fun j u hj => by rw [Nat.zero_add]; exact hcell j u hj⟩⟩, by simpa [XT.freeze, AVal.tree] using h2⟩
  | .op cells, v, S, hS, ⟨b, S', vs, hv, hSe, hh, hL, hcell⟩ => by
    subst hSe
    obtain ⟨h1, h2, h3⟩ := freezeL_rep hok cells vs S' true (fun b hb => hS b (by simp [hb])) hL
    exact ⟨⟨b, 0, hv, hS b (by simp), repC_of (repA_of_L h1 (h3 rfl)) fun j u hj => by rw [Nat.zero_add]; exact hcell j u hj⟩, by simpa [XT.freeze, AVal.tree] using h2⟩
  | .agg cs, v, S, hS, ⟨vs, hv, hL⟩ => by
    obtain ⟨h1, h2, h3⟩ := freezeL_rep hok cs vs S true hS hL
    exact ⟨⟨vs, hv, repA_of_L h1 (h3 rfl)⟩, by simpa [XT.freeze, AVal.tree] using h2⟩
  | .tup cs, v, S, hS, ⟨vs, hv, hL⟩ => by
    obtain ⟨h1, h2, _⟩ := freezeL_rep hok cs vs S false hS hL
    exact ⟨⟨vs, hv, h1⟩, by simpa [XT.freeze, AVal.tree] using h2⟩
theorem freezeL_rep {w' : World} {ok ok' : Nat → Prop} (hok : ∀ b, ok b → ok' b) : ∀ (cs : List XT) (vs : List Value) (S : List Nat) (one : Bool), (∀ b ∈ S, ok' b) → RepXL (treeEnv w' ok) one cs vs S → RepL (treeEnv w' ok') (freezeL cs) vs ∧ treeL (freezeL cs) = true ∧ (one = true → ∀ v ∈ vs, v.oneCell' = true)
  | [], vs, S, one, _, ⟨hv, _⟩ => ⟨hv, rfl, fun _ v h => by simp [hv] at h⟩
  | c :: cs, vs, S, one, hS, ⟨v, r, S1, S2, hvs, hSe, h1, hc, hL⟩ => by
    subst hvs hSe
    obtain ⟨p1, p2⟩ := freeze_rep hok c v S1 (fun b hb => hS b (by simp [hb])) hc
    obtain ⟨q1, q2, q3⟩ := freezeL_rep hok cs r S2 one (fun b hb => hS b (by simp [hb])) hL
    refine ⟨⟨v, r, rfl, p1, q1⟩, by simp [freezeL, treeL, p2, q2], fun e u hu => ?_⟩
    rcases List.mem_cons.1 hu with rfl | hu
    · exact h1 e
    · exact q3 e u hu
end
theorem repXL_v {E : Env} : ∀ {as : List AVal} {vs : List Value}, treeL as = true → RepL E as vs → RepXL E false (as.map XT.v) vs []
  | [], _, _, h => ⟨h, rfl⟩
  | a :: as, _, ht, ⟨v, r, e, hv, hl⟩ => by
    simp only [treeL, Bool.and_eq_true] at ht
    exact ⟨v, r, [], [], e, rfl, fun h => by simp at h, ⟨rfl, ht.1, hv⟩, repXL_v ht.2 hl⟩
/-- what is handed over may be shared -/
theorem DenX.den {f : FuncId} {as : List AVal} {args' : List XT} {t : XT} {r : AVal} (h : DenX P f (as.map XT.v) args' t) (hta : treeL as = true) (htt : t.freeze = r) (htr : r.tree = true) : Den P f as r := by
  refine ⟨h.1, htr, fun w vs ok hok hglob hrep => ?_⟩
  refine (h.2 w vs ok [] (fun b hb => ⟨hok b hb, by simp⟩) (by simp) List.nodup_nil hglob (repXL_v hta hrep)).mono ?_
  rintro e w' ⟨v, S1, S2, rfl, h1, h2, hnd, hr, hb⟩
  refine ⟨v, rfl, htt ▸ (freeze_rep (ok' := fun b => ok b ∨ (w.heap.size ≤ b ∧ b < w'.heap.size)) (fun b hb => ?_) t v S2 (fun b hb => ?_) h2).1, ⟨hb.os, hb.tape, hb.output, hb.size, fun k hk => hb.block k hk (by simp)⟩⟩
  · rcases hb.2.2 with h | h | h
    · exact .inl h
    · simp at h
    · exact .inr ⟨h, hb.1⟩
  · have := hr b (by simp [hb])
    rcases this.2 with h | h
    · simp at h
    · exact .inr ⟨h, this.1⟩
theorem den_of_awp {f : FuncId} {fn : Func} {c : Code} {args : List AVal} {t : AVal} (hf : P.funcs[f]? = some fn) (hb : fn.body = some c) (hn : (fn.name == "runtime.NumGoroutine") = false)
    (ha : args.length ≤ fn.ntmps) (hta : treeL args = true) (ht : t.tree = true) (hmix : P.follows .mixedOrders = true) (hd : drawsOk c = true) (h : lensL args → awp P c (apost P fn t) (init fn.ntmps args)) : Den P f args t :=
  den_of_awpG gh0 hf hb hn ha hta ht hmix hd h
theorem denx_of_awp {f : FuncId} {fn : Func} {c : Code} {args args' : List XT} {t : XT} (hf : P.funcs[f]? = some fn) (hb : fn.body = some c) (hn : (fn.name == "runtime.NumGoroutine") = false)
    (ha : args.length ≤ fn.ntmps) (hU : ((embA 0 args).2.map (·.1)).Nodup) (hmix : P.follows .mixedOrders = true) (hd : drawsOk c = true)
    (h : xlensL args → awp P c (apostX P fn (embA 0 args).1 args' t) (initX fn.ntmps args)) : DenX P f args args' t :=
  denx_of_awpG gh0 hf hb hn ha hU hmix hd h
end
end Go.Own
