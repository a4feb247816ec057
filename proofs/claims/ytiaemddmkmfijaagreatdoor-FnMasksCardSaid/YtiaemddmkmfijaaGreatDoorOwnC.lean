/-
  OWN WORK, generic over any program: laws on what an abstract value stands for; the state's relation 'Sim'.
-/
import Derived.Test.YtiaemddmkmfijaaGreatDoorOwnB
namespace Go.Own
open Go Go.RowKit
variable [GL]
set_option linter.unusedSectionVars false

theorem semv_run {α : Type} {P : Program} {x : Sem α} {a : α} (h : semv P x = some a) (w : World) : x.run P w = .ok a w := by
  induction x with
  | pure b => simp only [semv, Option.some.injEq] at h; subst h; rfl
  | program k ih => simp only [semv] at h; simp only [Sem.run]; exact ih P h
  | _ => simp [semv] at h

theorem semS_run {P : Program} {x : Sem Value} {t : AVal} (h : semS P x = some t) : ∃ v, t = .flat v ∧ scalar v = true ∧ ∀ w, x.run P w = .ok v w := by
  unfold semS at h
  split at h
  · rename_i v hv
    split at h
    · simp only [Option.some.injEq] at h; exact ⟨v, h.symm, ‹_›, semv_run hv⟩
    · simp at h
  · simp at h

structure EnvLe (E E' : Env) : Prop where
  ok : ∀ b, E.ok b → E'.ok b ∧ E'.w.heap[b]? = E.w.heap[b]?
  gen : E.gen ≤ E'.gen
  loc : ∀ β g r sz, g < E.gen → E'.loc β g = some (r, sz) → E.loc β g = some (r, sz) ∧ ∀ b k, r = some b → E.room b k → E'.room b k

theorem cell_same {w w' : World} {b off : Nat} (h : w'.heap[b]? = w.heap[b]?) : w'.cell? ⟨b, off, none⟩ = w.cell? ⟨b, off, none⟩ :=
  World.cell?_of_block (a := ⟨b, off, none⟩) h

mutual
theorem repV_mono {E E' : Env} (h : EnvLe E E') : ∀ (t : AVal) (v : Value), RepV E t v → RepV E' t v
  | .flat _, _, hr => hr
  | .agg cs, _, ⟨vs, e, hl⟩ => ⟨vs, e, repA_mono h cs vs hl⟩
  | .tup cs, _, ⟨vs, e, hl⟩ => ⟨vs, e, repL_mono h cs vs hl⟩
  | .lst cells _, _, ⟨a, c, e, h1, h2, h3⟩ => ⟨a, c, e, h1, h2, h3.imp id fun ⟨b, off, e2, hk, hc⟩ => ⟨b, off, e2, (h.ok b hk).1, repC_mono h (h.ok b hk).2 cells off hc⟩⟩
  | .nl, _, hr => hr
  | .iptr cells _, _, ⟨b, base, e, hk, hc⟩ => ⟨b, base, e, (h.ok b hk).1, repC_mono h (h.ok b hk).2 cells base hc⟩
  | .own _ _ _ _, _, ⟨hg, h1, hl⟩ => ⟨Nat.lt_of_lt_of_le hg h.gen, h1, fun r sz e => by
      obtain ⟨e1, hroom⟩ := h.loc _ _ _ _ hg e
      obtain ⟨a, c, e2, h2, h3, h4, h6⟩ := hl r sz e1
      exact ⟨a, c, e2, h2, h3, h4.imp id (fun ⟨b, e3, e4, h5⟩ => ⟨b, e3, e4, hroom b _ e3 h5⟩), h6⟩⟩
  | .ptr _ _ _, _, ⟨hg, h1, hl⟩ => ⟨Nat.lt_of_lt_of_le hg h.gen, h1, fun r sz e => hl r sz (h.loc _ _ _ _ hg e).1⟩
  | .clo _ cs, _, ⟨vs, e, hl⟩ => ⟨vs, e, repL_mono h cs vs hl⟩
  | .bnd _ cs, _, ⟨vs, e, hl⟩ => ⟨vs, e, repL_mono h cs vs hl⟩
  | .row _, _, ⟨b, T, fz, e, hk, hb⟩ => ⟨b, T, fz, e, (h.ok b hk).1, (h.ok b hk).2.trans hb⟩
  | .kin _, _, hr => hr
  | .anyb, _, hr => hr
  | .dead, _, _ => trivial
theorem repL_mono {E E' : Env} (h : EnvLe E E') : ∀ (cs : List AVal) (vs : List Value), RepL E cs vs → RepL E' cs vs
  | [], _, hr => hr
  | c :: cs, _, ⟨v, r, e, hv, hl⟩ => ⟨v, r, e, repV_mono h c v hv, repL_mono h cs r hl⟩
theorem repA_mono {E E' : Env} (h : EnvLe E E') : ∀ (cs : List AVal) (vs : List Value), RepA E cs vs → RepA E' cs vs
  | [], _, hr => hr
  | c :: cs, _, ⟨v, r, e, h1, hv, hl⟩ => ⟨v, r, e, h1, repV_mono h c v hv, repA_mono h cs r hl⟩
theorem repC_mono {E E' : Env} (h : EnvLe E E') {b : Nat} (hb : E'.w.heap[b]? = E.w.heap[b]?) : ∀ (cs : List AVal) (off : Nat), RepC E cs b off → RepC E' cs b off
  | [], _, _ => trivial
  | c :: cs, off, ⟨⟨v, e, h1, hv⟩, hl⟩ => ⟨⟨v, (cell_same hb).trans e, h1, repV_mono h c v hv⟩, repC_mono h hb cs (off + 1) hl⟩
end

mutual
theorem repV_tree {E E' : Env} (h : ∀ b, E.ok b → E'.ok b ∧ E'.w.heap[b]? = E.w.heap[b]?) : ∀ (t : AVal) (v : Value), t.tree = true → RepV E t v → RepV E' t v
  | .flat _, _, _, hr => hr
  | .agg cs, _, ht, ⟨vs, e, hl⟩ => ⟨vs, e, repA_tree h cs vs (by simpa [AVal.tree] using ht) hl⟩
  | .tup cs, _, ht, ⟨vs, e, hl⟩ => ⟨vs, e, repL_tree h cs vs (by simpa [AVal.tree] using ht) hl⟩
  | .lst cells _, _, ht, ⟨a, c, e, h1, h2, h3⟩ => ⟨a, c, e, h1, h2, h3.imp id fun ⟨b, off, e2, hk, hc⟩ => ⟨b, off, e2, (h b hk).1, repC_tree h (h b hk).2 cells off (by simpa [AVal.tree] using ht) hc⟩⟩
  | .nl, _, _, hr => hr
  | .iptr cells _, _, ht, ⟨b, base, e, hk, hc⟩ => ⟨b, base, e, (h b hk).1, repC_tree h (h b hk).2 cells base (by simpa [AVal.tree] using ht) hc⟩
  | .own _ _ _ _, _, ht, _ => by simp [AVal.tree] at ht
  | .ptr _ _ _, _, ht, _ => by simp [AVal.tree] at ht
  | .clo _ cs, _, ht, ⟨vs, e, hl⟩ => ⟨vs, e, repL_tree h cs vs (by simpa [AVal.tree] using ht) hl⟩
  | .bnd _ cs, _, ht, ⟨vs, e, hl⟩ => ⟨vs, e, repL_tree h cs vs (by simpa [AVal.tree] using ht) hl⟩
  | .row _, _, _, ⟨b, T, fz, e, hk, hb⟩ => ⟨b, T, fz, e, (h b hk).1, (h b hk).2.trans hb⟩
  | .kin _, _, _, hr => hr
  | .anyb, _, _, hr => hr
  | .dead, _, ht, _ => by simp [AVal.tree] at ht
theorem repL_tree {E E' : Env} (h : ∀ b, E.ok b → E'.ok b ∧ E'.w.heap[b]? = E.w.heap[b]?) : ∀ (cs : List AVal) (vs : List Value), treeL cs = true → RepL E cs vs → RepL E' cs vs
  | [], _, _, hr => hr
  | c :: cs, _, ht, ⟨v, r, e, hv, hl⟩ => by
    simp only [treeL, Bool.and_eq_true] at ht
    exact ⟨v, r, e, repV_tree h c v ht.1 hv, repL_tree h cs r ht.2 hl⟩
theorem repA_tree {E E' : Env} (h : ∀ b, E.ok b → E'.ok b ∧ E'.w.heap[b]? = E.w.heap[b]?) : ∀ (cs : List AVal) (vs : List Value), treeL cs = true → RepA E cs vs → RepA E' cs vs
  | [], _, _, hr => hr
  | c :: cs, _, ht, ⟨v, r, e, h1, hv, hl⟩ => by
    simp only [treeL, Bool.and_eq_true] at ht
    exact ⟨v, r, e, h1, repV_tree h c v ht.1 hv, repA_tree h cs r ht.2 hl⟩
theorem repC_tree {E E' : Env} (h : ∀ b, E.ok b → E'.ok b ∧ E'.w.heap[b]? = E.w.heap[b]?) {b : Nat} (hb : E'.w.heap[b]? = E.w.heap[b]?) : ∀ (cs : List AVal) (off : Nat), treeL cs = true → RepC E cs b off → RepC E' cs b off
  | [], _, _, _ => trivial
  | c :: cs, off, ht, ⟨⟨v, e, h1, hv⟩, hl⟩ => by
    simp only [treeL, Bool.and_eq_true] at ht
    exact ⟨⟨v, (cell_same hb).trans e, h1, repV_tree h c v ht.1 hv⟩, repC_tree h hb cs (off + 1) ht.2 hl⟩
end

/-! ### lists of cells -/
theorem repL_length {E : Env} : ∀ {cs : List AVal} {vs : List Value}, RepL E cs vs → cs.length = vs.length
  | [], _, h => by simp only [RepL] at h; subst h; rfl
  | _ :: _, _, ⟨_, _, e, _, hl⟩ => by subst e; simp [repL_length hl]
theorem repA_length {E : Env} : ∀ {cs : List AVal} {vs : List Value}, RepA E cs vs → cs.length = vs.length
  | [], _, h => by simp only [RepA] at h; subst h; rfl
  | _ :: _, _, ⟨_, _, e, _, _, hl⟩ => by subst e; simp [repA_length hl]
theorem repL_get {E : Env} : ∀ {cs : List AVal} {vs : List Value}, RepL E cs vs → ∀ {i : Nat} {c : AVal}, cs[i]? = some c → ∃ v, vs[i]? = some v ∧ RepV E c v
  | [], _, _, i, c, h => by simp at h
  | x :: cs, _, ⟨v, r, e, hv, hl⟩, 0, c, h => by subst e; simp at h; subst h; exact ⟨v, rfl, hv⟩
  | x :: cs, _, ⟨v, r, e, hv, hl⟩, i + 1, c, h => by subst e; simp at h; simpa using repL_get hl h
theorem repA_get {E : Env} : ∀ {cs : List AVal} {vs : List Value}, RepA E cs vs → ∀ {i : Nat} {c : AVal}, cs[i]? = some c → ∃ v, vs[i]? = some v ∧ v.oneCell' = true ∧ RepV E c v
  | [], _, _, i, c, h => by simp at h
  | x :: cs, _, ⟨v, r, e, h1, hv, hl⟩, 0, c, h => by subst e; simp at h; subst h; exact ⟨v, rfl, h1, hv⟩
  | x :: cs, _, ⟨v, r, e, h1, hv, hl⟩, i + 1, c, h => by subst e; simp at h; simpa using repA_get hl h
theorem repA_append {E : Env} : ∀ {cs ds : List AVal} {vs us : List Value}, RepA E cs vs → RepA E ds us → RepA E (cs ++ ds) (vs ++ us)
  | [], _, _, _, h, h2 => by simp only [RepA] at h; subst h; simpa using h2
  | _ :: _, _, _, _, ⟨v, r, e, h1, hv, hl⟩, h2 => by subst e; exact ⟨v, _, rfl, h1, hv, repA_append hl h2⟩
theorem repA_drop {E : Env} : ∀ {cs : List AVal} {vs : List Value} (n : Nat), RepA E cs vs → RepA E (cs.drop n) (vs.drop n)
  | _, _, 0, h => by simpa using h
  | [], _, n + 1, h => by simp only [RepA] at h; subst h; simp [RepA]
  | _ :: _, _, n + 1, ⟨v, r, e, h1, hv, hl⟩ => by subst e; simpa using repA_drop n hl
theorem repA_take {E : Env} : ∀ {cs : List AVal} {vs : List Value} (n : Nat), RepA E cs vs → RepA E (cs.take n) (vs.take n)
  | _, _, 0, h => by simp [RepA]
  | [], _, n + 1, h => by simp only [RepA] at h; subst h; simp [RepA]
  | _ :: _, _, n + 1, ⟨v, r, e, h1, hv, hl⟩ => by subst e; simpa using ⟨v, r.take n, rfl, h1, hv, repA_take n hl⟩
theorem repA_one {E : Env} : ∀ {cs : List AVal} {vs : List Value}, RepA E cs vs → ∀ v ∈ vs, v.oneCell' = true
  | [], _, h, v, hv => by simp only [RepA] at h; subst h; simp at hv
  | _ :: _, _, ⟨u, r, e, h1, _, hl⟩, v, hv => by
    subst e
    rcases List.mem_cons.1 hv with h | h
    · exact h ▸ h1
    · exact repA_one hl v h
theorem repC_get {E : Env} {b : Nat} : ∀ {cs : List AVal} {off : Nat}, RepC E cs b off → ∀ {i : Nat} {c : AVal}, cs[i]? = some c → ∃ v, E.w.cell? ⟨b, off + i, none⟩ = some v ∧ v.oneCell' = true ∧ RepV E c v
  | [], _, _, i, c, h => by simp at h
  | x :: cs, off, ⟨⟨v, e, h1, hv⟩, hl⟩, 0, c, h => by simp at h; subst h; exact ⟨v, by simpa using e, h1, hv⟩
  | x :: cs, off, ⟨⟨v, e, h1, hv⟩, hl⟩, i + 1, c, h => by
    simp at h
    obtain ⟨u, h2, h3⟩ := repC_get hl h
    exact ⟨u, by rw [← h2]; congr 2; omega, h3⟩
theorem repC_drop {E : Env} {b : Nat} : ∀ {cs : List AVal} {off : Nat} (n : Nat), RepC E cs b off → RepC E (cs.drop n) b (off + n)
  | _, _, 0, h => by simpa using h
  | [], _, n + 1, h => by simp [RepC]
  | _ :: _, off, n + 1, ⟨_, hl⟩ => by
    have := repC_drop n hl
    simpa [Nat.add_assoc, Nat.add_comm 1 n] using this
theorem repC_take {E : Env} {b : Nat} : ∀ {cs : List AVal} {off : Nat} (n : Nat), RepC E cs b off → RepC E (cs.take n) b off
  | _, _, 0, _ => by simp [RepC]
  | [], _, n + 1, _ => by simp [RepC]
  | _ :: _, off, n + 1, ⟨h, hl⟩ => by simpa using ⟨h, repC_take n hl⟩
/-- the cells' values, as a list -/
theorem repC_vals {E : Env} {b : Nat} : ∀ {cs : List AVal} {off : Nat}, RepC E cs b off → ∃ vs, RepA E cs vs ∧ ∀ j v, vs[j]? = some v → E.w.cell? ⟨b, off + j, none⟩ = some v
  | [], _, _ => ⟨[], by simp [RepA], by simp⟩
  | c :: cs, off, ⟨⟨v, e, h1, hv⟩, hl⟩ => by
    obtain ⟨vs, h2, h3⟩ := repC_vals hl
    refine ⟨v :: vs, ⟨v, vs, rfl, h1, hv, h2⟩, ?_⟩
    intro j u hu
    cases j with
    | zero => simp at hu; subst hu; simpa using e
    | succ j => simp at hu; rw [← h3 j u hu]; congr 2; omega
theorem repC_of {E : Env} {b : Nat} : ∀ {cs : List AVal} {vs : List Value} {off : Nat}, RepA E cs vs → (∀ j v, vs[j]? = some v → E.w.cell? ⟨b, off + j, none⟩ = some v) → RepC E cs b off
  | [], _, _, _, _ => trivial
  | c :: cs, _, off, ⟨v, r, e, h1, hv, hl⟩, h => by
    subst e
    refine ⟨⟨v, by simpa using h 0 v rfl, h1, hv⟩, repC_of hl fun j u hu => ?_⟩
    rw [← h (j + 1) u (by simpa using hu)]; congr 2; omega

/-! ### the state's relation -/
def envOf (okA : Nat → Prop) (B : Nat → Prop) (h : Nat → Option Blk) (gen : Nat) (m : Nat → Option Nat) (w : World) : Env where
  w := w
  ok b := b < w.heap.size ∧ (okA b ∨ B b) ∧ ∀ β blk, h β = some blk → m β ≠ some b
  loc β g := match h β with
    | some blk => if blk.gen = g then some (m β, blk.size) else none
    | none => none
  gen := gen

structure BlkOk (okA : Nat → Prop) (B : Nat → Prop) (h : Nat → Option Blk) (G : Nat) (m : Nat → Option Nat) (w : World) (β : Nat) (blk : Blk) : Prop where
  gen : blk.gen < G
  virt : m β = none → blk.cells = []
  real : ∀ b, m β = some b → B b ∧ (∃ arr T, w.heap[b]? = some (.cells arr T (0, 0)) ∧ blk.cells.length ≤ arr.size) ∧ RepC (envOf okA B h G m w) blk.cells b 0

structure Sim (okA : Nat → Prop) (w0 : Base) (s : ASt) (m : Nat → Option Nat) (a : Act) (w : World) : Prop where
  size : a.tmps.size = s.n
  defers : a.defers = []
  tmps : ∀ t, RepV (envOf okA w0.new s.heap s.gen m w) (s.tmp t) (a.tmps.getD t undef)
  pins : ∀ p ∈ w0.pins ++ globPins, RepV (envOf okA w0.new s.heap s.gen m w) p.1 p.2
  blks : ∀ β blk, s.heap β = some blk → BlkOk okA w0.new s.heap s.gen m w β blk
  inj : ∀ β β' blk blk' b, s.heap β = some blk → s.heap β' = some blk' → m β = some b → m β' = some b → β = β'
  below : BelowB w0 w
  okA : ∀ b, okA b → b < w0.w.heap.size ∧ ¬ w0.K b
  K : ∀ b, w0.K b → b < w0.w.heap.size

theorem Globs.tree {E E' : Env} (hg : Globs E) (h : ∀ b, E.ok b → E'.ok b ∧ E'.w.heap[b]? = E.w.heap[b]?) : Globs E' := fun p hp => by
  rcases List.mem_append.1 hp with hp' | hp'
  · obtain ⟨q, hq, rfl⟩ := List.mem_map.1 hp'
    exact repV_tree h _ _ (by simpa [AVal.tree] using GL.tree q hq) (hg _ hp)
  · rcases List.mem_append.1 hp' with hp'' | hp''
    · obtain ⟨q, hq, rfl⟩ := List.mem_map.1 hp''
      exact repV_tree h _ _ rfl (hg _ hp)
    · obtain ⟨q, hq, rfl⟩ := List.mem_map.1 hp''
      exact repV_tree h _ _ rfl (hg _ hp)
theorem Sim.globs {okA : Nat → Prop} {w0 : Base} {s : ASt} {m : Nat → Option Nat} {a : Act} {w : World} (S : Sim okA w0 s m a w) : Globs (envOf okA w0.new s.heap s.gen m w) := fun p hp => S.pins p (List.mem_append_right _ hp)
theorem lookG_mem {l : List (Nat × List AVal)} {g : Nat} {cells : List AVal} (h : lookG l g = some cells) : (g, cells) ∈ l := by
  induction l with
  | nil => simp [lookG] at h
  | cons p l ih =>
    obtain ⟨k, v⟩ := p
    simp only [lookG] at h
    split at h
    · rename_i e
      simp only [Option.some.injEq] at h
      subst e h
      simp
    · simp [ih h]
theorem globV_rep {E : Env} (hg : Globs E) (g : Nat) : RepV E (globV g) (.pointer (some ⟨g, 0, none⟩)) := by
  unfold globV
  split
  · rename_i cells h
    exact hg (.iptr cells 0, .pointer (some ⟨g, 0, none⟩)) (List.mem_append_left _ (List.mem_map.2 ⟨(g, cells), lookG_mem h, rfl⟩))
  · trivial
theorem glob_row {w : World} {ok : Nat → Prop} (hg : Globs (treeEnv w ok)) {g : Nat} {vs : List Value} (h : (g, vs) ∈ GL.ex) : ∃ T fz, w.heap[g]? = some (.cells vs.toArray T fz) := by
  obtain ⟨b, T, fz, e, _, hb⟩ := hg (.row vs, .pointer (some ⟨g, 0, none⟩)) (List.mem_append_right _ (List.mem_append_left _ (List.mem_map.2 ⟨(g, vs), h, rfl⟩)))
  simp only [Value.pointer.injEq, Option.some.injEq, Addr.mk.injEq] at e
  obtain ⟨rfl, _⟩ := e
  exact ⟨T, fz, hb⟩
theorem glob_int {w : World} {ok : Nat → Prop} (hg : Globs (treeEnv w ok)) {g : Nat} (h : g ∈ GL.shp) : ∃ m, w.cell? ⟨g, 0, none⟩ = some (.int .i64 m) := by
  obtain ⟨b, base, e, _, ⟨v, hc, _, m, rfl⟩, _⟩ := hg (.iptr [.kin 0] 0, .pointer (some ⟨g, 0, none⟩)) (List.mem_append_right _ (List.mem_append_right _ (List.mem_map.2 ⟨g, h, rfl⟩)))
  simp only [Value.pointer.injEq, Option.some.injEq, Addr.mk.injEq] at e
  obtain ⟨rfl, e2, _⟩ := e
  obtain rfl : base = 0 := by omega
  exact ⟨m, hc⟩
theorem heap_lt {w : World} {b : Nat} {o : Obj} (h : w.heap[b]? = some o) : b < w.heap.size := (Array.getElem?_eq_some_iff.1 h).1

theorem absC_rep (E : Env) (v : Value) : RepV E (absC v) v := by
  unfold absC
  split
  · exact ⟨none, rfl⟩
  · exact ⟨[], rfl, rfl⟩
  · split
    · exact ⟨‹_›, rfl⟩
    · trivial
end Go.Own
