/-
  OWN WORK, generic over any program: regions that draw and make a variable: as if the variable were made last.
-/
import Derived.Test.YtkmhoebopfgpdaaOwnR
namespace Go.Own
open Go Go.RowKit
variable [GL]
set_option linter.unusedSectionVars false

section
variable {P : Program} {okA : Nat → Prop} {w0 : Base}

/-- the call as from here on: what was new may be written, one block apart -/
def limB (B : Base) (b : Nat) (w1 : World) : Base := ⟨w1, fun k => B.new k ∧ k ≠ b ∧ k < w1.heap.size, B.pins⟩
theorem limB_new {B : Base} {b k : Nat} {w1 : World} (hb : b < w1.heap.size) (h : (limB B b w1).new k) (hB : B.w.heap.size ≤ w1.heap.size) : B.new k ∧ k ≠ b := by
  rcases h with h | ⟨h1, h2, _⟩
  · have h' : w1.heap.size ≤ k := h
    exact ⟨.inl (by omega), by omega⟩
  · exact ⟨h1, h2⟩

theorem aout_wp' {s : ASt} {m : Nat → Option Nat} {a : Act} {w : World} (S : Sim okA w0 s m a w) {o : Oper} {v : AVal} {s' : ASt} (h : AOut P s o v) (hp : s.put o.dst v = some s')
    {next : Act → World → Prop} {Q : Exit → Act → World → Prop} (hK : ∀ m' u w', Sim okA w0 s' m' (a.put o.dst u) w' → next (a.put o.dst u) w') : o.wp P a w next Q := by
  unfold Oper.wp
  rcases h with ⟨fx, args, ats, f, cs, as, ho, hf, h1, h2, h4⟩ | ⟨_, _, hv⟩ | ⟨_, _, hv⟩
  · obtain ⟨vs, hrun, hc⟩ := call_exec S ho hf h1 h2 h4
    rw [hrun w]
    refine hc.mono ?_
    rintro e w' ⟨v, rfl, hr, hb⟩
    exact hK m _ _ ((S.world hb).putv hp hr)
  · obtain ⟨u, hu, hrun⟩ := avalue_sound S hv
    rw [hrun w fun b _ => rfl]
    exact hK m _ _ (S.putv hp hu)
  · obtain ⟨u, w', hrun, hb, hu⟩ := afroz_sound S hv
    rw [hrun]
    exact hK m _ _ ((S.world hb).putv hp hu)
theorem aeff_wp' {s : ASt} {m : Nat → Option Nat} {a : Act} {w : World} (S : Sim okA w0 s m a w) {o : Oper} {s' : ASt} (h : AEff P o s s')
    {next : Act → World → Prop} {Q : Exit → Act → World → Prop} (hK : ∀ m' u w', Sim okA w0 s' m' (a.put o.dst u) w' → next (a.put o.dst u) w') : o.wp P a w next Q := by
  unfold Oper.wp
  rcases h with ⟨_, he⟩ | ⟨fx, args, ats, f, cs, ho, hf, xa, xa', t, q1, q2, q3, q4, q5, q6, s1, q7, rfl⟩
  · rcases aeff_sound S he with ⟨v, w', m', hr, hS⟩ | ⟨w', m', hr, hd, hS⟩
    · rw [hr]; exact hK m' _ _ hS
    · rw [hr]
      show next (a.put o.dst undef) w'
      refine hK m' _ _ ?_
      rw [hd]
      exact hS
  · obtain ⟨vs, hrun, hrep⟩ := callY_exec S ho hf q1.1
    rw [hrun w]
    refine (callX_sound S hrep q1 q2 q3 q4 q5 q6).mono ?_
    rintro e w' ⟨v, m', rfl, hv, hS⟩
    exact hK m' _ _ (hS.putv q7 hv)

/-- a block is made, and stays out of sight -/
theorem Sim.rebase {s : ASt} {m : Nat → Option Nat} {a : Act} {w : World} (S : Sim okA w0 s m a w) {w1 : World} (hw : Below w.heap.size w w1) (hb : w.heap.size < w1.heap.size) : Sim okA (limB w0 w.heap.size w1) s m a w1 := by
  have hnew : ∀ k, k < w.heap.size → w0.new k → (limB w0 w.heap.size w1).new k := fun k hk h => .inr ⟨h, by omega, by show k < w1.heap.size; omega⟩
  have hle : EnvLe (envOf okA w0.new s.heap s.gen m w) (envOf okA (limB w0 w.heap.size w1).new s.heap s.gen m w1) := by
    refine ⟨fun b ⟨h1, h2, h3⟩ => ⟨⟨Nat.lt_trans h1 hb, h2.imp id (hnew b h1), h3⟩, hw.block b h1⟩, Nat.le_refl _, fun β g r sz _ h => ⟨h, fun b k _ hr => ?_⟩⟩
    obtain ⟨arr, T, fz, h1, h2⟩ := hr
    exact ⟨arr, T, fz, (hw.block b (heap_lt h1)).trans h1, h2⟩
  refine ⟨S.size, S.defers, fun t => repV_mono hle _ _ (S.tmps t), fun p hp => repV_mono hle _ _ (S.pins p hp), fun β blk h => ?_, S.inj, BelowB.refl _ _ _, fun b h => ?_, fun b h => h.2.2⟩
  · have H := S.blks β blk h
    refine ⟨H.gen, H.virt, fun b hm => ?_⟩
    obtain ⟨h1, ⟨arr, T, h2, h3⟩, h4⟩ := H.real b hm
    have hlt := heap_lt h2
    exact ⟨hnew b hlt h1, ⟨arr, T, (hw.block b hlt).trans h2, h3⟩, repC_mono hle (hw.block b hlt) _ _ h4⟩
  · obtain ⟨h1, h2⟩ := S.okA b h
    have := S.below.size
    refine ⟨by show b < w1.heap.size; omega, fun hk => ?_⟩
    rcases hk.1 with h3 | h3
    · omega
    · exact h2 h3

/-- .. and comes into sight again -/
theorem Sim.unlimbo {s : ASt} {m : Nat → Option Nat} {a : Act} {w w1 : World} {b d sz : Nat} {zs : List AVal} {s' : ASt} (S : Sim okA (limB w0 b w1) s m a w) (hb : b < w1.heap.size) (hb0 : w0.w.heap.size ≤ b) (h1 : BelowB w0 w1)
    (hA : ∀ b, okA b → b < w0.w.heap.size ∧ ¬ w0.K b) (hK : ∀ b, w0.K b → b < w0.w.heap.size) {arr : Array Value} {T : TypeId} (hcur : w1.heap[b]? = some (.cells arr T (0, 0))) (hlen : zs.length ≤ arr.size)
    (hz : ∀ E : Env, RepA E zs (arr.toList.take zs.length)) (hd : a.tmps.getD d undef = .pointer (some ⟨b, 0, none⟩)) (h : s.new d sz zs (.ptr (s.gh.nm d) s.gen 0) = some s') : ∃ m', Sim okA w0 s' m' a w := by
  obtain ⟨hdn, rfl⟩ := new_eq h
  generalize s.gh.nm d = δ
  have hsz := h1.size
  have nk : ¬ (limB w0 b w1).K b := fun hk => hk.2.1 rfl
  have hcw : w.heap[b]? = some (.cells arr T (0, 0)) := (S.below.block b hb nk).trans hcur
  have new' : ∀ k, (limB w0 b w1).new k → w0.new k ∧ k ≠ b := fun k hk => limB_new hb hk hsz
  have hle : EnvLe (envOf okA (limB w0 b w1).new s.heap s.gen m w) (envOf okA w0.new (upd s.heap δ (some ⟨s.gen, sz, zs⟩)) (s.gen + 1) (upd m δ (some b)) w) := by
    refine ⟨fun b' ⟨h1, h2, h3⟩ => ⟨⟨h1, h2.imp id fun h => (new' b' h).1, fun β blk hβ => ?_⟩, rfl⟩, Nat.le_succ _, fun β g r sz' hg h => ?_⟩
    · by_cases e : β = δ
      · subst e
        simp only [upd, if_true]
        intro e
        simp only [Option.some.injEq] at e
        subst e
        rcases h2 with h2 | h2
        · have := (hA _ h2).1; omega
        · exact (new' _ h2).2 rfl
      · simp only [upd, e, if_false] at hβ ⊢; exact h3 β blk hβ
    · simp only [envOf, upd] at h hg ⊢
      by_cases e : β = δ
      · simp only [e, if_true] at h
        split at h
        · omega
        · simp at h
      · simp only [e, if_false] at h
        exact ⟨h, fun _ _ _ hr => hr⟩
  refine ⟨upd m δ (some b), S.size, S.defers, fun t => ?_, fun p hp => repV_mono hle _ _ (S.pins p hp), fun β blk h => ?_, fun β β' blk blk' b' h h' hm hm' => ?_, ?_, hA, hK⟩
  · by_cases e : t = d
    · subst e
      simp only [upd, if_true, hd]
      refine ⟨Nat.lt_succ_self _, rfl, fun r sz' e => ⟨b, ?_, rfl⟩⟩
      simp only [envOf, upd, if_true, Option.some.injEq, Prod.mk.injEq] at e
      exact e.1.symm
    · simp only [upd, e, if_false]; exact repV_mono hle _ _ (S.tmps t)
  · by_cases e : β = δ
    · subst e
      simp only [upd, if_true, Option.some.injEq] at h
      subst h
      refine ⟨Nat.lt_succ_self _, fun h => by simp [upd] at h, fun b' hb' => ?_⟩
      simp only [upd, if_true, Option.some.injEq] at hb'
      subst hb'
      refine ⟨.inl hb0, ⟨arr, T, hcw, hlen⟩, repC_of (vs := arr.toList.take zs.length) (hz _) fun j v hj => ?_⟩
      show w.cell? _ = _
      simp only [World.cell?, hcw, Nat.zero_add]
      have : j < zs.length := by
        have := (List.getElem?_eq_some_iff.1 hj).1
        simp at this; omega
      rw [List.getElem?_take_of_lt this] at hj
      simpa using hj
    · simp only [upd, e, if_false] at h
      have H := S.blks β blk h
      refine ⟨Nat.lt_succ_of_lt H.gen, fun hv => H.virt (by simpa [upd, e] using hv), fun b' hm => ?_⟩
      simp only [upd, e, if_false] at hm
      obtain ⟨q1, q2, q3⟩ := H.real b' hm
      exact ⟨(new' b' q1).1, q2, repC_mono hle rfl _ _ q3⟩
  · have nb : ∀ β blk, s.heap β = some blk → m β ≠ some b := fun β blk h hm => (new' b ((S.blks β blk h).real b hm).1).2 rfl
    by_cases e : β = δ
    · by_cases e' : β' = δ
      · rw [e, e']
      · subst e
        simp only [upd, if_true, Option.some.injEq] at hm
        subst hm
        simp only [upd, e', if_false] at h' hm'
        exact (nb β' blk' h' hm').elim
    · by_cases e' : β' = δ
      · subst e'
        simp only [upd, if_true, Option.some.injEq] at hm'
        subst hm'
        simp only [upd, e, if_false] at h hm
        exact (nb β blk h hm).elim
      · simp only [upd, e, e', if_false] at h h' hm hm'
        exact S.inj β β' blk blk' b' h h' hm hm'
  · have sb := S.below
    have hsz2 : w1.heap.size ≤ w.heap.size := sb.size
    refine ⟨sb.os.trans h1.os, sb.tape.trans h1.tape, sb.output.trans h1.output, Nat.le_trans hsz hsz2, fun k hk hn => ?_, fun k hk arr' T' fz' e => ?_⟩
    · refine (sb.block k (Nat.lt_of_lt_of_le hk hsz) fun hkk => ?_).trans (h1.block k hk hn)
      rcases hkk.1 with q | q
      · omega
      · exact hn q
    · obtain ⟨arr1, T1, fz1, e1, l1⟩ := h1.room k hk arr' T' fz' e
      have hkb : k < w0.w.heap.size := hK k hk
      obtain ⟨arr2, T2, fz2, e2, l2⟩ := sb.room k ⟨.inr hk, by omega, by show k < w1.heap.size; omega⟩ arr1 T1 fz1 e1
      exact ⟨arr2, T2, fz2, e2, Nat.le_trans l1 l2⟩
end
/-! ### the operations, with the variable left out -/
theorem late_get {ops : Array Oper} {ka : Nat} (h : ka + 1 < ops.size) (i : Nat) : (lateOps ops ka)[i]? = if i = ka ∨ i = ops.size - 1 then (ops[i]?).map qtO else ops[i]? := by
  have h1 : ops.toList[ka]? = some ops[ka] := by simp
  have h2 : ops.toList[ops.toList.length - 1]? = some ops[ops.size - 1] := by simp
  unfold lateOps lateL
  rw [h1, h2]
  simp only [List.getElem?_toArray, Array.length_toList]
  rw [List.getElem?_set, List.getElem?_set]
  by_cases e : ops.size - 1 = i
  · subst e
    rw [if_pos rfl, if_pos (by simp; omega), if_pos (Or.inr rfl), Array.getElem?_eq_getElem (by omega)]
    rfl
  · rw [if_neg e]
    by_cases e2 : ka = i
    · subst e2
      rw [if_pos rfl, if_pos (by simp; omega), if_pos (Or.inl rfl), Array.getElem?_eq_getElem (by omega)]
      rfl
    · rw [if_neg e2, if_neg (by omega)]
      simp
theorem late_size {ops : Array Oper} {ka : Nat} : (lateOps ops ka).size = ops.size := by
  unfold lateOps lateL
  split <;> simp
theorem late_after {ops : Array Oper} {ka i : Nat} {o : Oper} (h : ka + 1 < ops.size) (ho : ops[i]? = some o) : ∃ o', (lateOps ops ka)[i]? = some o' ∧ o'.after = o.after ∧ o'.dst = o.dst ∧ o'.guard = o.guard := by
  rw [late_get h, ho]
  split
  · exact ⟨qtO o, rfl, rfl, rfl, rfl⟩
  · exact ⟨o, rfl, rfl, rfl, rfl⟩
theorem late_dst {ops : Array Oper} {ka j : Nat} (h : ka + 1 < ops.size) : ((lateOps ops ka)[j]?).bind (·.dst) = (ops[j]?).bind (·.dst) := by
  rw [late_get h]
  split
  · cases ops[j]? <;> rfl
  · rfl
theorem late_yielded {ops : Array Oper} {ka j : Nat} {tm : Array Value} (h : ka + 1 < ops.size) : yielded ops tm j = yielded (lateOps ops ka) tm j := by
  unfold yielded
  rw [late_dst h]

section
variable {P : Program} {okA : Nat → Prop} {wB : Base} {ops ops' : Array Oper} {s0 sf : ASt} {pl : Plan P ops' s0 sf} (hok : drawOk ops' = true)
include hok
/-- one operation more, of those that are as they were -/
theorem draw_step (hyl : ∀ (tm : Array Value) j, yielded ops tm j = yielded ops' tm j) {listed : Array Bool} {S : ASt} {j : Nat} {m : Nat → Option Nat} {a : Act} {w : World} {i : Nat} {o : Oper}
    (hlt : i < listed.size) (I : Inv pl (fun i => listed.getD i false) S j) (hin : i < ops'.size) (ho : ops[i]? = some o) (ho' : ops'[i]? = some o) (hL : listed.getD i false = false) (hr : ∀ e ∈ o.after, Region.binds .any e = true → listed.getD e.on false = true)
    (hS : Sim okA wB S m a w) {Q : Exit → Act → World → Prop} {K : Act → World → Prop}
    (hK : ∀ S' j' m' u w', Inv pl (fun i' => (listed.setIfInBounds i true).getD i' false) S' j' → Sim okA wB S' m' (a.put o.dst u) w' → K (a.put o.dst u) w') : wpOp P ops Q i K a w := by
  have hset : ∀ k, (listed.setIfInBounds i true).getD k false = if k = i then true else listed.getD k false := fun k => by
    simp only [Array.getD_eq_getD_getElem?, Array.getElem?_setIfInBounds]
    by_cases e : k = i
    · subst e; simp [hlt]
    · simp [e, Ne.symm e]
  have closed' : ∀ k o', ops'[k]? = some o' → (listed.setIfInBounds i true).getD k false = true → ∀ e ∈ o'.after, Region.binds .any e = true → (listed.setIfInBounds i true).getD e.on false = true := fun k o' hk hkL e he hb => by
    rw [hset] at hkL ⊢
    by_cases ek : k = i
    · subst ek
      rw [ho'] at hk
      simp only [Option.some.injEq] at hk
      subst hk
      have := hr e he hb
      split
      · rfl
      · exact this
    · simp only [ek, if_false] at hkL
      have := I.closed k o' hk hkL e he hb
      split
      · rfl
      · exact this
  unfold wpOp
  rw [ho]
  simp only
  have other : ∀ {d : Nat}, o.dst = some d → ∀ k ok, k ≠ i → ops'[k]? = some ok → ok.dst ≠ some d := fun {d} hd k ok hk hok' => ((drawOk_spec hok hok').2 i d (Ne.symm hk) (by rw [ho']; exact hd)).1
  cases he : pl.eff i with
  | false =>
    obtain ⟨v, hy, hd, hv⟩ := inv_quiet hok I ho' hL hr he
    have I' : Inv pl (fun k => (listed.setIfInBounds i true).getD k false) (S.putD o.dst v) j := by
      refine ⟨by rw [putD_n]; exact I.n, by rw [putD_gh]; exact I.gh, I.le, fun k ok d hk hkL hkd => ?_, fun t ht => ?_, ?_, ?_, fun k hk hke => ?_, closed'⟩
      · simp only [hset] at hkL
        by_cases e : k = i
        · subst e
          rw [ho'] at hk
          simp only [Option.some.injEq] at hk
          subst hk
          rw [hv, hkd]
          simp [ASt.putD, ASt.set, upd]
        · simp only [e, if_false] at hkL
          rw [putD_tmp fun h => other h k ok e hk hkd]
          exact I.set k ok d hk hkL hkd
      · have h1 := ht i o ho' (by simp only [hset]; simp)
        rw [putD_tmp h1]
        refine I.old t fun k ok hk hkL => ht k ok hk ?_
        simp only [hset]
        split
        · rfl
        · exact hkL
      · cases o.dst <;> exact I.heap
      · cases o.dst <;> exact I.gen
      · have hki : k ≠ i := fun e => by rw [e, he] at hke; simp at hke
        simp only [hset, hki, if_false]
        exact I.eff k hk hke
    unfold AYields at hy
    split at hy
    · rename_i hg
      rw [if_pos (by simp [Region.wanted, hg])]
      exact .inl (aout_wp' hS hy (putD_put hd) fun m' u w' S' => hK _ j m' u w' I' S')
    · rename_i j' want hg
      obtain ⟨d, hgd, hgn, ⟨hx, hy⟩ | ⟨hx | hx, rfl⟩⟩ := hy
      · obtain ⟨hyl1, _⟩ := yielded_of hS hgd hgn hx
        rw [if_pos (by simp [Region.wanted, hg, hyl, hyl1])]
        exact .inl (aout_wp' hS hy (putD_put hd) fun m' u w' S' => hK _ j m' u w' I' S')
      · obtain ⟨hyl1, _⟩ := yielded_of hS hgd hgn hx
        rw [if_neg (by simp [Region.wanted, hg, hyl, hyl1])]
        exact hK _ j _ _ _ I' (hS.putv (t := .tup []) (v := undef) (putD_put hd) ⟨[], rfl, rfl⟩)
      · have h1 := hS.tmps d
        rw [hx] at h1
        obtain ⟨vs, e1, e2⟩ := h1
        simp only [RepL] at e2
        subst e2
        have hlt : d < a.tmps.size := by rw [hS.size]; exact hgn
        have h2 : a.tmps[d]? = some (.tuple #[]) := by
          rw [Array.getElem?_eq_getElem hlt]
          simp only [Array.getD_eq_getD_getElem?, Array.getElem?_eq_getElem hlt, Option.getD_some] at e1
          rw [e1]
        have hyl1 : yielded ops' a.tmps j' = none := by simp [yielded, hgd, h2]
        rw [if_neg (by simp [Region.wanted, hg, hyl, hyl1])]
        exact hK _ j _ _ _ I' (hS.putv (t := .tup []) (v := undef) (putD_put hd) ⟨[], rfl, rfl⟩)
  | true =>
    obtain ⟨hg, hE, hji, hq⟩ := inv_wrote hok I ho' hL hr he
    have I' : Inv pl (fun k => (listed.setIfInBounds i true).getD k false) { pl.st (i + 1) with tmp := putT o.dst S.tmp (pl.st (i + 1)) } (i + 1) := by
      refine ⟨pl.n_eq _ (by omega), pl.gh_eq _ (by omega), by omega, fun k ok d hk hkL hkd => ?_, fun t ht => ?_, rfl, rfl, fun k hk hke => ?_, closed'⟩
      · simp only [hset] at hkL
        by_cases e : k = i
        · subst e
          rw [ho'] at hk
          simp only [Option.some.injEq] at hk
          subst hk
          rw [hkd]
          simp [putT, upd]
        · simp only [e, if_false] at hkL
          have : putT o.dst S.tmp (pl.st (i + 1)) d = S.tmp d := by
            cases hd : o.dst with
            | none => rfl
            | some d' => exact upd_ne fun h => other hd k ok e hk (by rw [hkd, ← h])
          show putT o.dst S.tmp (pl.st (i + 1)) d = _
          rw [this]
          exact I.set k ok d hk hkL hkd
      · have h1 := ht i o ho' (by simp only [hset]; simp)
        have : putT o.dst S.tmp (pl.st (i + 1)) t = S.tmp t := by
          cases hd : o.dst with
          | none => rfl
          | some d' => exact upd_ne fun h => h1 (by rw [hd, h])
        show putT o.dst S.tmp (pl.st (i + 1)) t = _
        rw [this]
        refine I.old t fun k ok hk hkL => ht k ok hk ?_
        simp only [hset]
        split
        · rfl
        · exact hkL
      · simp only [hset]
        by_cases e : k = i
        · subst e; simp
        · simp only [e, if_false]
          have h1 := I.eff k hk hke
          constructor
          · intro h
            by_cases hkj : k < j
            · exact h1.1 hkj
            · have := hq k (by omega) (by omega)
              rw [hke] at this; simp at this
          · intro h
            have := h1.2 h
            omega
    have hw : Region.wanted o (yielded ops a.tmps) = true := by
      rcases hg with hg | ⟨j', want, d, hg, hgd, hgn, hx⟩
      · simp [Region.wanted, hg]
      · obtain ⟨hyl1, _⟩ := yielded_of hS hgd hgn hx
        simp [Region.wanted, hg, hyl, hyl1]
    rw [if_pos hw]
    exact .inl (aeff_wp' hS hE fun m' u w' S' => hK _ (i + 1) m' u w' I' S')
/-- an operation that does nothing in the plan -/
theorem inv_idle {listed : Array Bool} {S : ASt} {j i : Nat} {o : Oper} (hlt : i < listed.size) (I : Inv pl (fun i => listed.getD i false) S j) (ho' : ops'[i]? = some o) (hop : o.op = .move P0) (hg : o.guard = none) (hL : listed.getD i false = false)
    (hr : ∀ e ∈ o.after, Region.binds .any e = true → listed.getD e.on false = true) : okD S o.dst ∧ Inv pl (fun i' => (listed.setIfInBounds i true).getD i' false) (S.putD o.dst .dead) j := by
  have hset : ∀ k, (listed.setIfInBounds i true).getD k false = if k = i then true else listed.getD k false := fun k => by
    simp only [Array.getD_eq_getD_getElem?, Array.getElem?_setIfInBounds]
    by_cases e : k = i
    · subst e; simp [hlt]
    · simp [e, Ne.symm e]
  have closed' : ∀ k o', ops'[k]? = some o' → (listed.setIfInBounds i true).getD k false = true → ∀ e ∈ o'.after, Region.binds .any e = true → (listed.setIfInBounds i true).getD e.on false = true := fun k o' hk hkL e he hb => by
    rw [hset] at hkL ⊢
    by_cases ek : k = i
    · subst ek
      rw [ho'] at hk
      simp only [Option.some.injEq] at hk
      subst hk
      have := hr e he hb
      split
      · rfl
      · exact this
    · simp only [ek, if_false] at hkL
      have := I.closed k o' hk hkL e he hb
      split
      · rfl
      · exact this
  have other : ∀ {d : Nat}, o.dst = some d → ∀ k ok, k ≠ i → ops'[k]? = some ok → ok.dst ≠ some d := fun {d} hd k ok hk hok' => ((drawOk_spec hok hok').2 i d (Ne.symm hk) (by rw [ho']; exact hd)).1
  have he : pl.eff i = false := by
    cases h : pl.eff i with
    | false => rfl
    | true =>
      obtain ⟨_, hE, _⟩ := pl.wrote i o ho' h
      rcases hE with ⟨_, h⟩ | ⟨fx, args, ats, f, cs, h, _⟩
      · unfold aeff at h
        rw [hop] at h
        simp at h
      · rw [hop] at h; simp at h
  obtain ⟨v, hy, hd, hv⟩ := inv_quiet hok I ho' hL hr he
  have hvd : v = .dead := by
    unfold AYields at hy
    rw [hg] at hy
    rcases hy with ⟨fx, args, ats, f, cs, as, h, _⟩ | ⟨_, _, h⟩ | ⟨_, _, h⟩
    · rw [hop] at h; simp at h
    · unfold avalue at h
      rw [hop] at h
      simp only [P0, ASt.eval, absV, absC, scalar, Option.some.injEq] at h
      exact h.symm
    · unfold afroz at h
      rw [hop] at h
      simp at h
  subst hvd
  refine ⟨hd, by rw [putD_n]; exact I.n, by rw [putD_gh]; exact I.gh, I.le, fun k ok d hk hkL hkd => ?_, fun t ht => ?_, ?_, ?_, fun k hk hke => ?_, closed'⟩
  · simp only [hset] at hkL
    by_cases e : k = i
    · subst e
      rw [ho'] at hk
      simp only [Option.some.injEq] at hk
      subst hk
      rw [hv, hkd]
      simp [ASt.putD, ASt.set, upd]
    · simp only [e, if_false] at hkL
      rw [putD_tmp fun h => other h k ok e hk hkd]
      exact I.set k ok d hk hkL hkd
  · have h1 := ht i o ho' (by simp only [hset]; simp)
    rw [putD_tmp h1]
    refine I.old t fun k ok hk hkL => ht k ok hk ?_
    simp only [hset]
    split
    · rfl
    · exact hkL
  · cases o.dst <;> exact I.heap
  · cases o.dst <;> exact I.gen
  · have hki : k ≠ i := fun e => by rw [e, he] at hke; simp at hke
    simp only [hset, hki, if_false]
    exact I.eff k hk hke
end
section
variable {P : Program} {okA : Nat → Prop} {w0 : Base} {ops : Array Oper} {ka : Nat} {s0 sf : ASt}
structure Late (ops : Array Oper) (ka : Nat) (oa os : Oper) (d : Nat) (T : TypeId) : Prop where
  lt : ka + 1 < ops.size
  ok : drawOk (lateOps ops ka) = true
  a : ops[ka]? = some oa
  s : ops[ops.size - 1]? = some os
  ag : oa.guard = none
  sg : os.guard = none
  sd : os.dst = none
  ao : oa.op = .alloc T
  ad : oa.dst = some d
  all : ∀ j, j < ops.size - 1 → AfterT (lateOps ops ka) (ops.size - 1) j
theorem late_spec (h : lateOk ops ka = true) : ∃ oa os d T, Late ops ka oa os d T := by
  unfold lateOk at h
  simp only [Bool.and_eq_true, decide_eq_true_eq] at h
  obtain ⟨⟨h1, h2⟩, h3⟩ := h
  split at h3
  case h_2 => simp at h3
  rename_i oa os ha hs
  simp only [Bool.and_eq_true, Option.isNone_iff_eq_none, List.all_eq_true, List.mem_range] at h3
  obtain ⟨⟨⟨⟨⟨a1, a2⟩, a3⟩, a4⟩, _⟩, a6⟩ := h3
  split at a4
  · rename_i T d e1 e2
    exact ⟨oa, os, d, T, h1, h2, ha, hs, a1, a2, a3, e1, e2, fun j hj => afterR_T _ _ (a6 j hj)⟩
  · simp at a4
theorem late2_eq {oa os : Oper} {d : Nat} {T : TypeId} (L : Late ops ka oa os d T) : late2 ops ka = [oa, os] := by
  have h1 : ops.toList[ka]? = some oa := by simpa using L.a
  have h2 : ops.toList[ops.toList.length - 1]? = some os := by simpa using L.s
  unfold late2
  rw [h1, h2]
/-- the variable's block -/
structure Lim (w0 : Base) (d : Nat) (arr : Array Value) (T : TypeId) (b : Nat) (w1 : World) (a : Act) : Prop where
  lt : b < w1.heap.size
  new : w0.w.heap.size ≤ b
  below : BelowB w0 w1
  blk : w1.heap[b]? = some (.cells arr T (0, 0))
  tmp : a.tmps.getD d undef = .pointer (some ⟨b, 0, none⟩)
def Ph (okA : Nat → Prop) (w0 : Base) (n ka d : Nat) (arr : Array Value) (T : TypeId) (Q : Exit → Act → World → Prop) (L : Nat → Bool) (S : ASt) (a : Act) (w : World) : Prop :=
  (L ka = false ∧ L (n - 1) = false ∧ ∃ m, Sim okA w0 S m a w) ∨
  (L ka = true ∧ L (n - 1) = false ∧ ∃ m b w1, Sim okA (limB w0 b w1) S m a w ∧ Lim w0 d arr T b w1 a) ∨
  ((∀ i, i < n → L i = true) ∧ Q .normal a w)
theorem draw_late {pl : Plan P (lateOps ops ka) s0 sf} {oa os : Oper} {d : Nat} {T : TypeId} (L : Late ops ka oa os d T) {Q : Exit → Act → World → Prop} {K : Bool → ASt → Prop} {s1 : ASt} {z : Array Value} {zs : List AVal} {sz : Nat}
    (halloc : ∀ (ρ : Operand → Value) (w : World), (execOp ρ oa).run P w = .ok (.value (.pointer (some ⟨w.heap.size, 0, none⟩))) (w.alloc (.cells z T)))
    (hlen : zs.length ≤ z.size) (hz : ∀ E : Env, RepA E zs (z.toList.take zs.length)) (hs1 : sf.new d sz zs (.ptr (sf.gh.nm d) sf.gen 0) = some s1)
    {nd : Bool} (hos : astep P nd os s1 K) (hQ : ∀ eff s' m' a' w', Sim okA w0 s' m' a' w' → K eff s' → Q .normal a' w')
    (hA : ∀ b, okA b → b < w0.w.heap.size ∧ ¬ w0.K b) (hK0 : ∀ b, w0.K b → b < w0.w.heap.size) :
    ∀ (fuel : Nat) (listed : Array Bool) (S : ASt) (j : Nat) (a : Act) (w : World), listed.size = ops.size → Inv pl (fun i => listed.getD i false) S j → cu (fun i => listed.getD i false) ops.size ≤ fuel →
      Ph okA w0 ops.size ka d z T Q (fun i => listed.getD i false) S a w → wpAny P .any ops Q fuel listed a w := by
  have hsz' : (lateOps ops ka).size = ops.size := late_size
  have fin : ∀ {listed : Array Bool} {S : ASt} {a : Act} {w : World}, (∀ i, i < ops.size → listed.getD i false = true) → Ph okA w0 ops.size ka d z T Q (fun i => listed.getD i false) S a w → Q .normal a w := fun {listed S a w} hall h => by
    have := L.lt
    rcases h with ⟨h, _⟩ | ⟨_, h, _⟩ | ⟨_, h⟩
    · have h2 := hall ka (by omega); simp only at h; rw [h] at h2; simp at h2
    · have h2 := hall (ops.size - 1) (by omega); simp only at h; rw [h] at h2; simp at h2
    · exact h
  intro fuel
  induction fuel with
  | zero =>
    intro listed S j a w hsz I hc h
    have hall := cu_zero ops.size (by omega) (L := fun i => listed.getD i false)
    refine ⟨?_, fin hall h⟩
    cases hr : Region.ready .any ops listed with
    | nil => rfl
    | cons i l =>
      exfalso
      have : i ∈ Region.ready .any ops listed := by rw [hr]; simp
      obtain ⟨h1, o, ho, _⟩ := mem_ready.1 this
      have hi := (Array.getElem?_eq_some_iff.1 ho).1
      have h2 := hall i hi
      have h3 : i < listed.size := by omega
      simp only [Array.getD_eq_getD_getElem?, Array.getElem?_eq_getElem h3, Option.getD_some] at h1 h2
      rw [h1] at h2; simp at h2
  | succ fuel ih =>
    intro listed S j a w hsz I hc h
    refine ⟨fun hr => fin (fun i hi => ?_) h, fun i hi => ?_⟩
    · have hr' : Region.ready .any (lateOps ops ka) listed = [] := by
        cases hq : Region.ready .any (lateOps ops ka) listed with
        | nil => rfl
        | cons i l =>
          exfalso
          have : i ∈ Region.ready .any (lateOps ops ka) listed := by rw [hq]; simp
          obtain ⟨h1, o', ho', h2⟩ := mem_ready.1 this
          have hi := (Array.getElem?_eq_some_iff.1 ho').1
          have ho : ops[i]? = some ops[i] := Array.getElem?_eq_getElem (by omega)
          obtain ⟨o2, e1, e2, _⟩ := late_after L.lt ho
          rw [e1] at ho'
          simp only [Option.some.injEq] at ho'
          subst ho'
          have : i ∈ Region.ready .any ops listed := mem_ready.2 ⟨h1, _, ho, by rw [← e2]; exact h2⟩
          rw [hr] at this
          simp at this
      exact ready_done L.ok (by omega) hr' i (by omega)
    obtain ⟨h1, o, ho, hr⟩ := mem_ready.1 hi
    have hin := (Array.getElem?_eq_some_iff.1 ho).1
    have hlt : i < listed.size := by omega
    have hL : listed.getD i false = false := by
      simp only [Array.getD_eq_getD_getElem?, Array.getElem?_eq_getElem hlt, Option.getD_some] at h1 ⊢
      exact h1
    have hset : ∀ k, (listed.setIfInBounds i true).getD k false = if k = i then true else listed.getD k false := fun k => by
      simp only [Array.getD_eq_getD_getElem?, Array.getElem?_setIfInBounds]
      by_cases e : k = i
      · subst e; simp [hlt]
      · simp [e, Ne.symm e]
    have hc' : cu (fun k => (listed.setIfInBounds i true).getD k false) ops.size ≤ fuel := by
      have := cu_set (L := fun k => listed.getD k false) (L' := fun k => (listed.setIfInBounds i true).getD k false) (i := i) hL (by simp only [hset]; simp) (fun k hk => by simp only [hset, hk, if_false]) ops.size
      rw [if_pos hin] at this
      omega
    have hszs : (listed.setIfInBounds i true).size = ops.size := by simpa using hsz
    obtain ⟨o', ho', oa1, oa2, oa3⟩ := late_after L.lt ho
    have hr' : ∀ e ∈ o'.after, Region.binds .any e = true → listed.getD e.on false = true := by rw [oa1]; exact hr
    have hka := L.lt
    have hget := late_get L.lt i
    by_cases eks : i = ops.size - 1
    · -- the store
      subst eks
      have hall : ∀ k, k < ops.size - 1 → listed.getD k false = true := fun k hk => after_ready I.closed ho' hr' (L.all k hk)
      have eo : o = os := by rw [L.s] at ho; exact (Option.some.inj ho).symm
      subst eo
      rw [if_pos (.inr rfl), ho, ho'] at hget
      have eo' : o' = qtO o := Option.some.inj hget
      subst eo'
      obtain ⟨_, I'⟩ := inv_idle L.ok (by omega) I ho' rfl L.sg hL hr'
      have hall' : ∀ k, k < ops.size → (listed.setIfInBounds (ops.size - 1) true).getD k false = true := fun k hk => by
        rw [hset]
        split
        · rfl
        · exact hall k (by omega)
      have eS : S.putD (qtO o).dst .dead = S := by
        show S.putD o.dst .dead = S
        rw [L.sd]
        rfl
      rw [eS] at I'
      have hSf : S = sf := inv_done L.ok I' fun k hk => hall' k (by omega)
      rcases h with ⟨h, _⟩ | ⟨_, _, m, b, w1, hS, hl⟩ | ⟨h, _⟩
      · have h2 := hall ka (by omega); simp only at h; rw [h] at h2; simp at h2
      · subst hSf
        obtain ⟨m1, S1⟩ := hS.unlimbo hl.lt hl.new hl.below hA hK0 hl.blk hlen hz hl.tmp hs1
        unfold wpOp
        rw [ho]
        simp only
        rw [if_pos (by simp [Region.wanted, L.sg])]
        exact .inl (astep_wp S1 hos fun eff s' m' a' w' S' hk => ih _ S j a' w' hszs I' hc' (.inr (.inr ⟨hall', hQ eff s' m' a' w' S' hk⟩)))
      · have h2 := h (ops.size - 1) (by omega); simp only at h2; rw [hL] at h2; simp at h2
    by_cases eka : i = ka
    · subst eka
      have eo : o = oa := by rw [L.a] at ho; exact (Option.some.inj ho).symm
      subst eo
      rw [if_pos (.inl rfl), ho, ho'] at hget
      have eo' : o' = qtO o := Option.some.inj hget
      subst eo'
      obtain ⟨hd, I'⟩ := inv_idle L.ok (by omega) I ho' rfl L.ag hL hr'
      have hdd : (qtO o).dst = some d := L.ad
      rw [hdd] at hd I'
      rcases h with ⟨_, hks, m, hS⟩ | ⟨h, _⟩ | ⟨h, _⟩
      · unfold wpOp
        rw [ho]
        simp only
        rw [if_pos (by simp [Region.wanted, L.ag])]
        refine .inl ?_
        unfold Oper.wp
        rw [halloc]
        show wpAny P .any ops Q fuel _ (a.put o.dst _) _
        rw [L.ad]
        have hdn : d < a.tmps.size := by rw [hS.size]; exact hd d rfl
        have hbw : Below w.heap.size w (w.alloc (.cells z T)) := below_alloc w _
        refine ih _ _ j _ _ hszs I' hc' (.inr (.inl ⟨by simp only [hset]; simp, by simp only [hset]; rw [if_neg (by omega)]; exact hks, m, w.heap.size, w.alloc (.cells z T), ?_, ?_⟩))
        · exact (hS.rebase hbw (by simp)).putv (t := .dead) (putD_put hd) trivial
        · have h0 := hS.below.size
          refine ⟨by simp, by omega, hS.below.step hbw, heap_alloc_new w _, ?_⟩
          simp only [Act.put]
          rw [getD_set _ _ _ _ hdn, if_pos rfl]
      · simp only at h; rw [hL] at h; simp at h
      · have h2 := h i (by omega); simp only at h2; rw [hL] at h2; simp at h2
    · rw [if_neg (by omega), ho, ho'] at hget
      have eo' : o' = o := Option.some.inj hget
      subst eo'
      rcases h with ⟨hk1, hk2, m, hS⟩ | ⟨hk1, hk2, m, b, w1, hS, hl⟩ | ⟨h, _⟩
      · exact draw_step L.ok (fun tm j => late_yielded L.lt) hlt I (by omega) ho ho' hL hr hS fun S' j' m' u w' I' S'' =>
          ih _ S' j' _ w' hszs I' hc' (.inl ⟨by simp only [hset]; rw [if_neg (by omega)]; exact hk1, by simp only [hset]; rw [if_neg (by omega)]; exact hk2, m', S''⟩)
      · refine draw_step L.ok (fun tm j => late_yielded L.lt) hlt I (by omega) ho ho' hL hr hS fun S' j' m' u w' I' S'' =>
          ih _ S' j' _ w' hszs I' hc' (.inr (.inl ⟨by simp only [hset]; rw [if_neg (by omega)]; exact hk1, by simp only [hset]; rw [if_neg (by omega)]; exact hk2, m', b, w1, S'', hl.lt, hl.new, hl.below, hl.blk, ?_⟩))
        have hne : o'.dst ≠ some d := by
          obtain ⟨o3, e1, _, e3, _⟩ := late_after L.lt L.a
          exact ((drawOk_spec L.ok ho').2 ka d (by omega) (by rw [e1]; simp [e3, L.ad])).1
        cases hd : o'.dst with
        | none => exact hl.tmp
        | some d' =>
          have hnd : d ≠ d' := fun e => hne (by rw [hd, e])
          simp only [Act.put]
          by_cases hs : d' < a.tmps.size
          · rw [getD_set _ _ _ _ hs, if_neg hnd]; exact hl.tmp
          · have : a.tmps.setIfInBounds d' u = a.tmps := by
              apply Array.ext
              · simp
              · intro k hk1 hk2
                rw [Array.getElem_setIfInBounds]
                rw [if_neg (fun e : d' = k => hs (by rw [e]; exact hk2))]
            rw [this]; exact hl.tmp
      · have h2 := h i (by omega); simp only at h2; rw [hL] at h2; simp at h2
end
end Go.Own
