/-
  OWN WORK, generic over any program: the state's relation is kept by each kind of change; each operation does what the abstract one says.
-/
import Derived.Test.YtiaemddmkmfijaaGreatDoorOwnC
namespace Go.Own
open Go Go.RowKit
variable [GL]
set_option linter.unusedSectionVars false

theorem repA_absC (E : Env) : ∀ (l : List Value), (∀ v ∈ l, v.oneCell' = true) → RepA E (l.map absC) l
  | [], _ => rfl
  | v :: r, h => ⟨v, r, rfl, h v (by simp), absC_rep E v, repA_absC E r fun u hu => h u (by simp [hu])⟩
theorem absV_rep (E : Env) (v : Value) : RepV E (absV v) v := by
  unfold absV
  split
  · split
    · rename_i cs h
      exact ⟨cs.toList, by simp, repA_absC E _ (List.all_eq_true.1 h)⟩
    · trivial
  · exact absC_rep E v

section
variable {P : Program} {okA : Nat → Prop} {w0 : Base} {s : ASt} {m : Nat → Option Nat} {a : Act} {w : World}

theorem Sim.eval (S : Sim okA w0 s m a w) (x : Operand) : RepV (envOf okA w0.new s.heap s.gen m w) (s.eval x) (a.eval x) := by
  cases x with
  | tmp t => exact S.tmps t
  | const v => exact absV_rep _ v
  | global g => exact globV_rep S.globs g
  | func f => exact ⟨[], rfl, rfl⟩

theorem getD_set (l : Array Value) (d t : Nat) (v : Value) (hd : d < l.size) : (l.setIfInBounds d v).getD t undef = if t = d then v else l.getD t undef := by
  simp only [Array.getD_eq_getD_getElem?, Array.getElem?_setIfInBounds]
  by_cases h : t = d
  · subst h; simp [hd]
  · simp [h, Ne.symm h]

theorem Sim.putv (S : Sim okA w0 s m a w) {dst : Option Tmp} {t : AVal} {v : Value} {s' : ASt} (hp : s.put dst t = some s')
    (hv : RepV (envOf okA w0.new s.heap s.gen m w) t v) : Sim okA w0 s' m (a.put dst v) w := by
  unfold ASt.put at hp
  split at hp
  · rename_i d
    split at hp
    · rename_i hd
      simp only [Option.some.injEq] at hp
      subst hp
      refine ⟨by simpa [Act.put, ASt.set] using S.size, by simpa [Act.put] using S.defers, fun t' => ?_, S.pins, S.blks, S.inj, S.below, S.okA, S.K⟩
      simp only [Act.put, ASt.set, upd]
      rw [getD_set _ _ _ _ (by rw [S.size]; exact hd)]
      by_cases h : t' = d
      · simp only [h, if_true]; exact hv
      · simp only [h, if_false]; exact S.tmps t'
    · simp at hp
  · simp only [Option.some.injEq] at hp
    subst hp
    exact ⟨S.size, S.defers, S.tmps, S.pins, S.blks, S.inj, S.below, S.okA, S.K⟩

/-- a temporary whose value is known more exactly -/
theorem Sim.refine (S : Sim okA w0 s m a w) {d : Nat} {t : AVal} (hv : RepV (envOf okA w0.new s.heap s.gen m w) t (a.tmps.getD d undef)) : Sim okA w0 (s.set d t) m a w := by
  refine ⟨S.size, S.defers, fun t' => ?_, S.pins, S.blks, S.inj, S.below, S.okA, S.K⟩
  simp only [ASt.set, upd]
  by_cases h : t' = d
  · simp only [h, if_true]; exact hv
  · simp only [h, if_false]; exact S.tmps t'

theorem BlkOk.mono {okA : Nat → Prop} {B : Nat → Prop} {h h' : Nat → Option Blk} {G G' : Nat} {m m' : Nat → Option Nat} {w w' : World} {β : Nat} {blk : Blk}
    (H : BlkOk okA B h G m w β blk) (hg : G ≤ G') (hm : m' β = m β) (hle : EnvLe (envOf okA B h G m w) (envOf okA B h' G' m' w'))
    (hw : ∀ b, m β = some b → w'.heap[b]? = w.heap[b]?) : BlkOk okA B h' G' m' w' β blk := by
  refine ⟨Nat.lt_of_lt_of_le H.gen hg, fun h => H.virt (hm ▸ h), fun b hb => ?_⟩
  rw [hm] at hb
  obtain ⟨h1, h2, h3⟩ := H.real b hb
  refine ⟨h1, ?_, repC_mono hle (hw b hb) _ _ h3⟩
  rw [hw b hb]; exact h2

theorem lt_of_room {E : Env} {b k : Nat} (h : E.room b k) : b < E.w.heap.size := by
  obtain ⟨arr, T, fz, h, _⟩ := h
  exact heap_lt h

/-- the world has grown; nothing that was there has turned -/
theorem Sim.world (S : Sim okA w0 s m a w) {w' : World} (hb : Below w.heap.size w w') : Sim okA w0 s m a w' := by
  have hle : EnvLe (envOf okA w0.new s.heap s.gen m w) (envOf okA w0.new s.heap s.gen m w') := by
    refine ⟨fun b ⟨h1, h2, h3⟩ => ⟨⟨Nat.lt_of_lt_of_le h1 hb.size, h2, h3⟩, hb.block b h1⟩, Nat.le_refl _, fun β g r sz _ h => ⟨h, fun b k _ hr => ?_⟩⟩
    obtain ⟨arr, T, fz, h1, h2⟩ := hr
    exact ⟨arr, T, fz, (hb.block b (heap_lt h1)).trans h1, h2⟩
  refine ⟨S.size, S.defers, fun t => repV_mono hle _ _ (S.tmps t), fun p hp => repV_mono hle _ _ (S.pins p hp), fun β blk h => (S.blks β blk h).mono (Nat.le_refl _) rfl hle fun b hm => ?_, S.inj, S.below.step hb, S.okA, S.K⟩
  obtain ⟨_, ⟨arr, T, h1, _⟩, _⟩ := (S.blks β blk h).real b hm
  exact hb.block b (heap_lt h1)

/-- a new block, named δ, the value laid in temporary d -/
theorem Sim.newBlk' (S : Sim okA w0 s m a w) {d δ sz : Nat} {cells : List AVal} {t : AVal} (hd : d < s.n) {w' : World} {v : Value} {arr : Array Value} {T : TypeId}
    (hw : Below w.heap.size w w') (hsz : w.heap.size < w'.heap.size) (hnew : w'.heap[w.heap.size]? = some (.cells arr T (0, 0))) (hlen : cells.length ≤ arr.size)
    (hc : RepA (envOf okA w0.new s.heap s.gen m w) cells (arr.toList.take cells.length))
    (hv : RepV (envOf okA w0.new (upd s.heap δ (some ⟨s.gen, sz, cells⟩)) (s.gen + 1) (upd m δ (some w.heap.size)) w') t v) :
    Sim okA w0 { s with tmp := upd s.tmp d t, heap := upd s.heap δ (some ⟨s.gen, sz, cells⟩), gen := s.gen + 1 } (upd m δ (some w.heap.size)) (a.put (some d) v) w' := by
  have hle : EnvLe (envOf okA w0.new s.heap s.gen m w) (envOf okA w0.new (upd s.heap δ (some ⟨s.gen, sz, cells⟩)) (s.gen + 1) (upd m δ (some w.heap.size)) w') := by
    refine ⟨fun b ⟨h1, h2, h3⟩ => ⟨⟨Nat.lt_trans h1 hsz, h2, fun β blk hβ => ?_⟩, hw.block b h1⟩, Nat.le_succ _, fun β g r sz' hg h => ?_⟩
    · by_cases e : β = δ
      · subst e; simp [upd]; omega
      · simp only [upd, e, if_false] at hβ ⊢; exact h3 β blk hβ
    · simp only [envOf, upd] at h hg ⊢
      by_cases e : β = δ
      · simp only [e, if_true] at h
        split at h
        · omega
        · simp at h
      · simp only [e, if_false] at h
        refine ⟨h, fun b k _ hr => ?_⟩
        obtain ⟨arr, T, fz, h1, h2⟩ := hr
        exact ⟨arr, T, fz, (hw.block b (heap_lt h1)).trans h1, h2⟩
  refine ⟨by simpa [Act.put] using S.size, by simpa [Act.put] using S.defers, fun t' => ?_, fun p hp => repV_mono hle _ _ (S.pins p hp), fun β blk h => ?_, fun β β' blk blk' b h h' hm hm' => ?_, S.below.step hw, S.okA, S.K⟩
  · simp only [Act.put]
    rw [getD_set _ _ _ _ (by rw [S.size]; exact hd)]
    by_cases h : t' = d
    · simp only [upd, h, if_true]; exact hv
    · simp only [upd, h, if_false]; exact repV_mono hle _ _ (S.tmps t')
  · by_cases e : β = δ
    · subst e
      simp only [upd, if_true, Option.some.injEq] at h
      subst h
      refine ⟨Nat.lt_succ_self _, fun h => by simp [upd] at h, fun b hb => ?_⟩
      simp only [upd, if_true, Option.some.injEq] at hb
      subst hb
      refine ⟨.inl S.below.size, ⟨arr, T, hnew, hlen⟩, repC_of (vs := arr.toList.take cells.length) (repA_mono hle _ _ hc) fun j v hj => ?_⟩
      show w'.cell? _ = _
      simp only [World.cell?, hnew, Nat.zero_add]
      have : j < cells.length := by
        have := (List.getElem?_eq_some_iff.1 hj).1
        simp at this; omega
      rw [List.getElem?_take_of_lt this] at hj
      simpa using hj
    · simp only [upd, e, if_false] at h
      refine (S.blks β blk h).mono (Nat.le_succ _) (by simp [upd, e]) hle fun b hm => ?_
      obtain ⟨_, ⟨arr, T, h1, _⟩, _⟩ := (S.blks β blk h).real b hm
      exact hw.block b (heap_lt h1)
  · have lt : ∀ β blk b, β ≠ δ → s.heap β = some blk → m β = some b → b < w.heap.size := fun β blk b _ h hm => by
      obtain ⟨_, ⟨arr, T, h1, _⟩, _⟩ := (S.blks β blk h).real b hm
      exact heap_lt h1
    by_cases e : β = δ <;> by_cases e' : β' = δ
    · rw [e, e']
    · simp only [upd, e, e', if_true, if_false, Option.some.injEq] at h h' hm hm'
      have := lt β' blk' b e' h' hm'
      omega
    · simp only [upd, e, e', if_true, if_false, Option.some.injEq] at h h' hm hm'
      have := lt β blk b e h hm
      omega
    · simp only [upd, e, e', if_false] at h h' hm hm'
      exact S.inj β β' blk blk' b h h' hm hm'

/-- a new block, named d -/
theorem Sim.newBlk (S : Sim okA w0 s m a w) {d sz : Nat} {cells : List AVal} {t : AVal} {s' : ASt} (hs : s.new d sz cells t = some s') {w' : World} {v : Value} {arr : Array Value} {T : TypeId}
    (hw : Below w.heap.size w w') (hsz : w.heap.size < w'.heap.size) (hnew : w'.heap[w.heap.size]? = some (.cells arr T (0, 0))) (hlen : cells.length ≤ arr.size)
    (hc : RepA (envOf okA w0.new s.heap s.gen m w) cells (arr.toList.take cells.length))
    (hv : RepV (envOf okA w0.new s'.heap s'.gen (upd m (s.gh.nm d) (some w.heap.size)) w') t v) :
    Sim okA w0 s' (upd m (s.gh.nm d) (some w.heap.size)) (a.put (some d) v) w' := by
  unfold ASt.new at hs
  split at hs
  case isFalse => simp at hs
  rename_i hd
  simp only [Option.some.injEq] at hs
  subst hs
  exact S.newBlk' hd hw hsz hnew hlen hc hv

/-- a block of the function's own is written over; its generation may go up -/
theorem Sim.setBlk (S : Sim okA w0 s m a w) {β b : Nat} {blk blk' : Blk} (hβ : s.heap β = some blk) (hm : m β = some b) {G' : Nat} (hG : s.gen ≤ G') (hsz : blk'.size = blk.size)
    (hgen : blk'.gen = blk.gen ∨ (s.gen ≤ blk'.gen ∧ blk'.gen < G')) {arr arr' : Array Value} {T : TypeId} (hcur : w.heap[b]? = some (.cells arr T (0, 0))) (harr : arr'.size = arr.size)
    (hlen : blk'.cells.length ≤ arr'.size) (hc : RepA (envOf okA w0.new s.heap s.gen m w) blk'.cells (arr'.toList.take blk'.cells.length)) :
    EnvLe (envOf okA w0.new s.heap s.gen m w) (envOf okA w0.new (upd s.heap β (some blk')) G' m (w.setRow b arr')) ∧
    Sim okA w0 { s with heap := upd s.heap β (some blk'), gen := G' } m a (w.setRow b arr') := by
  have hnew := setRow_heap w b arr arr' T (0, 0) hcur
  have hsz' : (w.setRow b arr').heap.size = w.heap.size := by simp [World.setRow]
  have hB := ((S.blks β blk hβ).real b hm).1
  have hle : EnvLe (envOf okA w0.new s.heap s.gen m w) (envOf okA w0.new (upd s.heap β (some blk')) G' m (w.setRow b arr')) := by
    refine ⟨fun b' ⟨h1, h2, h3⟩ => ?_, hG, fun β' g r sz' hg h => ?_⟩
    · have hne : b' ≠ b := fun e => h3 β blk hβ (e ▸ hm)
      refine ⟨⟨by simpa [envOf, hsz'] using h1, h2, fun β' bl hβ' => ?_⟩, setRow_other w b b' arr' hne⟩
      by_cases e : β' = β
      · subst e; exact h3 β' blk hβ
      · simp only [upd, e, if_false] at hβ'; exact h3 β' bl hβ'
    · simp only [envOf, upd] at h hg ⊢
      have room : ∀ b' k, (envOf okA w0.new s.heap s.gen m w).room b' k → (envOf okA w0.new (upd s.heap β (some blk')) G' m (w.setRow b arr')).room b' k := fun b' k hr => by
        obtain ⟨ar, T', fz, h1, h2⟩ := hr
        by_cases e : b' = b
        · subst e
          have h1' : w.heap[b']? = some (.cells ar T' fz) := h1
          rw [hcur] at h1'
          simp only [Option.some.injEq, Obj.cells.injEq] at h1'
          obtain ⟨rfl, _, _⟩ := h1'
          exact ⟨arr', T, (0, 0), hnew, by omega⟩
        · exact ⟨ar, T', fz, (setRow_other w b b' arr' e).trans h1, h2⟩
      by_cases e : β' = β
      · simp only [e, if_true] at h
        split at h
        · rename_i hgg
          rcases hgen with hgen | hgen
          · simp only [Option.some.injEq, Prod.mk.injEq] at h
            obtain ⟨h1, h2⟩ := h
            subst e
            simp only [hβ]
            rw [if_pos (by omega)]
            exact ⟨by rw [h1, ← hsz, h2], fun b' k _ hr => room b' k hr⟩
          · omega
        · simp at h
      · simp only [e, if_false] at h
        exact ⟨h, fun b' k _ hr => room b' k hr⟩
  refine ⟨hle, S.size, S.defers, fun t => repV_mono hle _ _ (S.tmps t), fun p hp => repV_mono hle _ _ (S.pins p hp), fun β' bl h => ?_, fun β1 β2 blk1 blk2 b' h1 h2 hm1 hm2 => ?_, ?_, S.okA, S.K⟩
  · by_cases e : β' = β
    · subst e
      simp only [upd, if_true, Option.some.injEq] at h
      subst h
      have Hb := S.blks β' blk hβ
      refine ⟨?_, fun h => by rw [hm] at h; simp at h, fun b' hb' => ?_⟩
      · show blk'.gen < G'
        have := Hb.gen
        rcases hgen with h | h <;> omega
      · rw [hm] at hb'
        simp only [Option.some.injEq] at hb'
        subst hb'
        refine ⟨hB, ⟨arr', T, hnew, hlen⟩, repC_of (vs := arr'.toList.take blk'.cells.length) (repA_mono hle _ _ hc) fun j v hj => ?_⟩
        show (w.setRow b arr').cell? _ = _
        simp only [World.cell?, hnew, Nat.zero_add]
        have : j < blk'.cells.length := by
          have := (List.getElem?_eq_some_iff.1 hj).1
          simp at this; omega
        rw [List.getElem?_take_of_lt this] at hj
        simpa using hj
    · simp only [upd, e, if_false] at h
      refine (S.blks β' bl h).mono hG rfl hle fun b' hm' => setRow_other w b b' arr' fun eb => e ?_
      exact S.inj β' β bl blk b h hβ (eb ▸ hm') hm
  · have old : ∀ β' bl, upd s.heap β (some blk') β' = some bl → ∃ bl', s.heap β' = some bl' := fun β' bl h => by
      by_cases e : β' = β
      · exact ⟨blk, e ▸ hβ⟩
      · simp only [upd, e, if_false] at h; exact ⟨bl, h⟩
    obtain ⟨_, h1'⟩ := old β1 blk1 h1
    obtain ⟨_, h2'⟩ := old β2 blk2 h2
    exact S.inj β1 β2 _ _ b' h1' h2' hm1 hm2
  · refine S.below.change rfl rfl rfl (by rw [hsz']; exact Nat.le_refl _) (fun k hk hn => setRow_other w b k arr' (fun e => hn (e ▸ hB))) fun k arr1 T1 fz1 _ e1 => ?_
    by_cases e : k = b
    · subst e
      rw [hcur] at e1
      simp only [Option.some.injEq, Obj.cells.injEq] at e1
      exact ⟨arr', T, (0, 0), hnew, by rw [← e1.1, harr]; exact Nat.le_refl _⟩
    · exact ⟨arr1, T1, fz1, (setRow_other w b k arr' e).trans e1, Nat.le_refl _⟩
end
end Go.Own
