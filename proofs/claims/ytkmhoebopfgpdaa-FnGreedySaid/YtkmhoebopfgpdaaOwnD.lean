/-
  OWN WORK, generic over any program: the state's relation is kept by each kind of change; each operation does what the abstract one says.
  OWN WORK, generic over any program: laws on what an abstract value stands for; the state's relation 'Sim'.
-/
import Derived.Test.YtkmhoebopfgpdaaOwnB
namespace Go.Own
open Go Go.RowKit
variable [GL]
set_option linter.unusedSectionVars false

theorem semv_run {α : Type} {P : Program} {x : Sem α} {a : α} (h : semv P x = some a) (w : World) : x.run P w = .ok a w := by
  induction x with
  | pure b => simp only [semv, Option.some.injEq] at h; subst h; rfl
  | program k ih => simp only [semv] at h; simp only [Sem.run]; exact ih P h
  | _ => simp [semv] at h

theorem semS_run {P : Program} {x : Sem Value} {t : AVal} (h : semS P x = some t) : ∃ v, t = .flat v ∧ scalar v = true ∧ ∀ w, x.run P w = .ok v w := by
  unfold semS at h
  split at h
  · rename_i v hv
    split at h
    · simp only [Option.some.injEq] at h; exact ⟨v, h.symm, ‹_›, semv_run hv⟩
    · simp at h
  · simp at h

structure EnvLe (E E' : Env) : Prop where
  ok : ∀ b, E.ok b → E'.ok b ∧ E'.w.heap[b]? = E.w.heap[b]?
  gen : E.gen ≤ E'.gen
  loc : ∀ β g r sz, g < E.gen → E'.loc β g = some (r, sz) → E.loc β g = some (r, sz) ∧ ∀ b k, r = some b → E.room b k → E'.room b k

theorem cell_same {w w' : World} {b off : Nat} (h : w'.heap[b]? = w.heap[b]?) : w'.cell? ⟨b, off, none⟩ = w.cell? ⟨b, off, none⟩ :=
  World.cell?_of_block (a := ⟨b, off, none⟩) h

mutual
theorem repV_mono {E E' : Env} (h : EnvLe E E') : ∀ (t : AVal) (v : Value), RepV E t v → RepV E' t v
  | .flat _, _, hr => hr
  | .agg cs, _, ⟨vs, e, hl⟩ => ⟨vs, e, repA_mono h cs vs hl⟩
  | .tup cs, _, ⟨vs, e, hl⟩ => ⟨vs, e, repL_mono h cs vs hl⟩
  | .lst cells _, _, ⟨a, c, e, h1, h2, h3⟩ => ⟨a, c, e, h1, h2, h3.imp id fun ⟨b, off, e2, hk, hc⟩ => ⟨b, off, e2, (h.ok b hk).1, repC_mono h (h.ok b hk).2 cells off hc⟩⟩
  | .nl, _, hr => hr
  | .iptr cells _, _, ⟨b, base, e, hk, hc⟩ => ⟨b, base, e, (h.ok b hk).1, repC_mono h (h.ok b hk).2 cells base hc⟩
  | .own _ _ _ _, _, ⟨hg, h1, hl⟩ => ⟨Nat.lt_of_lt_of_le hg h.gen, h1, fun r sz e => by
      obtain ⟨e1, hroom⟩ := h.loc _ _ _ _ hg e
      obtain ⟨a, c, e2, h2, h3, h4, h6⟩ := hl r sz e1
      exact ⟨a, c, e2, h2, h3, h4.imp id (fun ⟨b, e3, e4, h5⟩ => ⟨b, e3, e4, hroom b _ e3 h5⟩), h6⟩⟩
  | .ptr _ _ _, _, ⟨hg, h1, hl⟩ => ⟨Nat.lt_of_lt_of_le hg h.gen, h1, fun r sz e => hl r sz (h.loc _ _ _ _ hg e).1⟩
  | .clo _ cs, _, ⟨vs, e, hl⟩ => ⟨vs, e, repL_mono h cs vs hl⟩
  | .bnd _ cs, _, ⟨vs, e, hl⟩ => ⟨vs, e, repL_mono h cs vs hl⟩
  | .row _, _, ⟨b, T, fz, e, hk, hb⟩ => ⟨b, T, fz, e, (h.ok b hk).1, (h.ok b hk).2.trans hb⟩
  | .kin _, _, hr => hr
  | .anyb, _, hr => hr
  | .dead, _, _ => trivial
theorem repL_mono {E E' : Env} (h : EnvLe E E') : ∀ (cs : List AVal) (vs : List Value), RepL E cs vs → RepL E' cs vs
  | [], _, hr => hr
  | c :: cs, _, ⟨v, r, e, hv, hl⟩ => ⟨v, r, e, repV_mono h c v hv, repL_mono h cs r hl⟩
theorem repA_mono {E E' : Env} (h : EnvLe E E') : ∀ (cs : List AVal) (vs : List Value), RepA E cs vs → RepA E' cs vs
  | [], _, hr => hr
  | c :: cs, _, ⟨v, r, e, h1, hv, hl⟩ => ⟨v, r, e, h1, repV_mono h c v hv, repA_mono h cs r hl⟩
theorem repC_mono {E E' : Env} (h : EnvLe E E') {b : Nat} (hb : E'.w.heap[b]? = E.w.heap[b]?) : ∀ (cs : List AVal) (off : Nat), RepC E cs b off → RepC E' cs b off
  | [], _, _ => trivial
  | c :: cs, off, ⟨⟨v, e, h1, hv⟩, hl⟩ => ⟨⟨v, (cell_same hb).trans e, h1, repV_mono h c v hv⟩, repC_mono h hb cs (off + 1) hl⟩
end

mutual
theorem repV_tree {E E' : Env} (h : ∀ b, E.ok b → E'.ok b ∧ E'.w.heap[b]? = E.w.heap[b]?) : ∀ (t : AVal) (v : Value), t.tree = true → RepV E t v → RepV E' t v
  | .flat _, _, _, hr => hr
  | .agg cs, _, ht, ⟨vs, e, hl⟩ => ⟨vs, e, repA_tree h cs vs (by simpa [AVal.tree] using ht) hl⟩
  | .tup cs, _, ht, ⟨vs, e, hl⟩ => ⟨vs, e, repL_tree h cs vs (by simpa [AVal.tree] using ht) hl⟩
  | .lst cells _, _, ht, ⟨a, c, e, h1, h2, h3⟩ => ⟨a, c, e, h1, h2, h3.imp id fun ⟨b, off, e2, hk, hc⟩ => ⟨b, off, e2, (h b hk).1, repC_tree h (h b hk).2 cells off (by simpa [AVal.tree] using ht) hc⟩⟩
  | .nl, _, _, hr => hr
  | .iptr cells _, _, ht, ⟨b, base, e, hk, hc⟩ => ⟨b, base, e, (h b hk).1, repC_tree h (h b hk).2 cells base (by simpa [AVal.tree] using ht) hc⟩
  | .own _ _ _ _, _, ht, _ => by simp [AVal.tree] at ht
  | .ptr _ _ _, _, ht, _ => by simp [AVal.tree] at ht
  | .clo _ cs, _, ht, ⟨vs, e, hl⟩ => ⟨vs, e, repL_tree h cs vs (by simpa [AVal.tree] using ht) hl⟩
  | .bnd _ cs, _, ht, ⟨vs, e, hl⟩ => ⟨vs, e, repL_tree h cs vs (by simpa [AVal.tree] using ht) hl⟩
  | .row _, _, _, ⟨b, T, fz, e, hk, hb⟩ => ⟨b, T, fz, e, (h b hk).1, (h b hk).2.trans hb⟩
  | .kin _, _, _, hr => hr
  | .anyb, _, _, hr => hr
  | .dead, _, ht, _ => by simp [AVal.tree] at ht
theorem repL_tree {E E' : Env} (h : ∀ b, E.ok b → E'.ok b ∧ E'.w.heap[b]? = E.w.heap[b]?) : ∀ (cs : List AVal) (vs : List Value), treeL cs = true → RepL E cs vs → RepL E' cs vs
  | [], _, _, hr => hr
  | c :: cs, _, ht, ⟨v, r, e, hv, hl⟩ => by
    simp only [treeL, Bool.and_eq_true] at ht
    exact ⟨v, r, e, repV_tree h c v ht.1 hv, repL_tree h cs r ht.2 hl⟩
theorem repA_tree {E E' : Env} (h : ∀ b, E.ok b → E'.ok b ∧ E'.w.heap[b]? = E.w.heap[b]?) : ∀ (cs : List AVal) (vs : List Value), treeL cs = true → RepA E cs vs → RepA E' cs vs
  | [], _, _, hr => hr
  | c :: cs, _, ht, ⟨v, r, e, h1, hv, hl⟩ => by
    simp only [treeL, Bool.and_eq_true] at ht
    exact ⟨v, r, e, h1, repV_tree h c v ht.1 hv, repA_tree h cs r ht.2 hl⟩
theorem repC_tree {E E' : Env} (h : ∀ b, E.ok b → E'.ok b ∧ E'.w.heap[b]? = E.w.heap[b]?) {b : Nat} (hb : E'.w.heap[b]? = E.w.heap[b]?) : ∀ (cs : List AVal) (off : Nat), treeL cs = true → RepC E cs b off → RepC E' cs b off
  | [], _, _, _ => trivial
  | c :: cs, off, ht, ⟨⟨v, e, h1, hv⟩, hl⟩ => by
    simp only [treeL, Bool.and_eq_true] at ht
    exact ⟨⟨v, (cell_same hb).trans e, h1, repV_tree h c v ht.1 hv⟩, repC_tree h hb cs (off + 1) ht.2 hl⟩
end

/-! ### lists of cells -/
theorem repL_length {E : Env} : ∀ {cs : List AVal} {vs : List Value}, RepL E cs vs → cs.length = vs.length
  | [], _, h => by simp only [RepL] at h; subst h; rfl
  | _ :: _, _, ⟨_, _, e, _, hl⟩ => by subst e; simp [repL_length hl]
theorem repA_length {E : Env} : ∀ {cs : List AVal} {vs : List Value}, RepA E cs vs → cs.length = vs.length
  | [], _, h => by simp only [RepA] at h; subst h; rfl
  | _ :: _, _, ⟨_, _, e, _, _, hl⟩ => by subst e; simp [repA_length hl]
theorem repL_get {E : Env} : ∀ {cs : List AVal} {vs : List Value}, RepL E cs vs → ∀ {i : Nat} {c : AVal}, cs[i]? = some c → ∃ v, vs[i]? = some v ∧ RepV E c v
  | [], _, _, i, c, h => by simp at h
  | x :: cs, _, ⟨v, r, e, hv, hl⟩, 0, c, h => by subst e; simp at h; subst h; exact ⟨v, rfl, hv⟩
  | x :: cs, _, ⟨v, r, e, hv, hl⟩, i + 1, c, h => by subst e; simp at h; simpa using repL_get hl h
theorem repA_get {E : Env} : ∀ {cs : List AVal} {vs : List Value}, RepA E cs vs → ∀ {i : Nat} {c : AVal}, cs[i]? = some c → ∃ v, vs[i]? = some v ∧ v.oneCell' = true ∧ RepV E c v
  | [], _, _, i, c, h => by simp at h
  | x :: cs, _, ⟨v, r, e, h1, hv, hl⟩, 0, c, h => by subst e; simp at h; subst h; exact ⟨v, rfl, h1, hv⟩
  | x :: cs, _, ⟨v, r, e, h1, hv, hl⟩, i + 1, c, h => by subst e; simp at h; simpa using repA_get hl h
theorem repA_append {E : Env} : ∀ {cs ds : List AVal} {vs us : List Value}, RepA E cs vs → RepA E ds us → RepA E (cs ++ ds) (vs ++ us)
  | [], _, _, _, h, h2 => by simp only [RepA] at h; subst h; simpa using h2
  | _ :: _, _, _, _, ⟨v, r, e, h1, hv, hl⟩, h2 => by subst e; exact ⟨v, _, rfl, h1, hv, repA_append hl h2⟩
theorem repA_drop {E : Env} : ∀ {cs : List AVal} {vs : List Value} (n : Nat), RepA E cs vs → RepA E (cs.drop n) (vs.drop n)
  | _, _, 0, h => by simpa using h
  | [], _, n + 1, h => by simp only [RepA] at h; subst h; simp [RepA]
  | _ :: _, _, n + 1, ⟨v, r, e, h1, hv, hl⟩ => by subst e; simpa using repA_drop n hl
theorem repA_take {E : Env} : ∀ {cs : List AVal} {vs : List Value} (n : Nat), RepA E cs vs → RepA E (cs.take n) (vs.take n)
  | _, _, 0, h => by simp [RepA]
  | [], _, n + 1, h => by simp only [RepA] at h; subst h; simp [RepA]
  | _ :: _, _, n + 1, ⟨v, r, e, h1, hv, hl⟩ => by subst e; simpa using ⟨v, r.take n, rfl, h1, hv, repA_take n hl⟩
theorem repA_one {E : Env} : ∀ {cs : List AVal} {vs : List Value}, RepA E cs vs → ∀ v ∈ vs, v.oneCell' = true
  | [], _, h, v, hv => by simp only [RepA] at h; subst h; simp at hv
  | _ :: _, _, ⟨u, r, e, h1, _, hl⟩, v, hv => by
    subst e
    rcases List.mem_cons.1 hv with h | h
    · exact h ▸ h1
    · exact repA_one hl v h
theorem repC_get {E : Env} {b : Nat} : ∀ {cs : List AVal} {off : Nat}, RepC E cs b off → ∀ {i : Nat} {c : AVal}, cs[i]? = some c → ∃ v, E.w.cell? ⟨b, off + i, none⟩ = some v ∧ v.oneCell' = true ∧ RepV E c v
  | [], _, _, i, c, h => by simp at h
  | x :: cs, off, ⟨⟨v, e, h1, hv⟩, hl⟩, 0, c, h => by simp at h; subst h; exact ⟨v, by simpa using e, h1, hv⟩
  | x :: cs, off, ⟨⟨v, e, h1, hv⟩, hl⟩, i + 1, c, h => by
    simp at h
    obtain ⟨u, h2, h3⟩ := repC_get hl h
    exact ⟨u, by rw [← h2]; congr 2; omega, h3⟩
theorem repC_drop {E : Env} {b : Nat} : ∀ {cs : List AVal} {off : Nat} (n : Nat), RepC E cs b off → RepC E (cs.drop n) b (off + n)
  | _, _, 0, h => by simpa using h
  | [], _, n + 1, h => by simp [RepC]
  | _ :: _, off, n + 1, ⟨_, hl⟩ => by
    have := repC_drop n hl
    simpa [Nat.add_assoc, Nat.add_comm 1 n] using this
theorem repC_take {E : Env} {b : Nat} : ∀ {cs : List AVal} {off : Nat} (n : Nat), RepC E cs b off → RepC E (cs.take n) b off
  | _, _, 0, _ => by simp [RepC]
  | [], _, n + 1, _ => by simp [RepC]
  | _ :: _, off, n + 1, ⟨h, hl⟩ => by simpa using ⟨h, repC_take n hl⟩
/-- the cells' values, as a list -/
theorem repC_vals {E : Env} {b : Nat} : ∀ {cs : List AVal} {off : Nat}, RepC E cs b off → ∃ vs, RepA E cs vs ∧ ∀ j v, vs[j]? = some v → E.w.cell? ⟨b, off + j, none⟩ = some v
  | [], _, _ => ⟨[], by simp [RepA], by simp⟩
  | c :: cs, off, ⟨⟨v, e, h1, hv⟩, hl⟩ => by
    obtain ⟨vs, h2, h3⟩ := repC_vals hl
    refine ⟨v :: vs, ⟨v, vs, rfl, h1, hv, h2⟩, ?_⟩
    intro j u hu
    cases j with
    | zero => simp at hu; subst hu; simpa using e
    | succ j => simp at hu; rw [← h3 j u hu]; congr 2; omega
theorem repC_of {E : Env} {b : Nat} : ∀ {cs : List AVal} {vs : List Value} {off : Nat}, RepA E cs vs → (∀ j v, vs[j]? = some v → E.w.cell? ⟨b, off + j, none⟩ = some v) → RepC E cs b off
  | [], _, _, _, _ => trivial
  | c :: cs, _, off, ⟨v, r, e, h1, hv, hl⟩, h => by
    subst e
    refine ⟨⟨v, by simpa using h 0 v rfl, h1, hv⟩, repC_of hl fun j u hu => ?_⟩
    rw [← h (j + 1) u (by simpa using hu)]; congr 2; omega

/-! ### the state's relation -/
def envOf (okA : Nat → Prop) (B : Nat → Prop) (h : Nat → Option Blk) (gen : Nat) (m : Nat → Option Nat) (w : World) : Env where
  w := w
  ok b := b < w.heap.size ∧ (okA b ∨ B b) ∧ ∀ β blk, h β = some blk → m β ≠ some b
  loc β g := match h β with
    | some blk => if blk.gen = g then some (m β, blk.size) else none
    | none => none
  gen := gen

structure BlkOk (okA : Nat → Prop) (B : Nat → Prop) (h : Nat → Option Blk) (G : Nat) (m : Nat → Option Nat) (w : World) (β : Nat) (blk : Blk) : Prop where
  gen : blk.gen < G
  virt : m β = none → blk.cells = []
  real : ∀ b, m β = some b → B b ∧ (∃ arr T, w.heap[b]? = some (.cells arr T (0, 0)) ∧ blk.cells.length ≤ arr.size) ∧ RepC (envOf okA B h G m w) blk.cells b 0

structure Sim (okA : Nat → Prop) (w0 : Base) (s : ASt) (m : Nat → Option Nat) (a : Act) (w : World) : Prop where
  size : a.tmps.size = s.n
  defers : a.defers = []
  tmps : ∀ t, RepV (envOf okA w0.new s.heap s.gen m w) (s.tmp t) (a.tmps.getD t undef)
  pins : ∀ p ∈ w0.pins ++ globPins, RepV (envOf okA w0.new s.heap s.gen m w) p.1 p.2
  blks : ∀ β blk, s.heap β = some blk → BlkOk okA w0.new s.heap s.gen m w β blk
  inj : ∀ β β' blk blk' b, s.heap β = some blk → s.heap β' = some blk' → m β = some b → m β' = some b → β = β'
  below : BelowB w0 w
  okA : ∀ b, okA b → b < w0.w.heap.size ∧ ¬ w0.K b
  K : ∀ b, w0.K b → b < w0.w.heap.size

theorem Globs.tree {E E' : Env} (hg : Globs E) (h : ∀ b, E.ok b → E'.ok b ∧ E'.w.heap[b]? = E.w.heap[b]?) : Globs E' := fun p hp => by
  rcases List.mem_append.1 hp with hp' | hp'
  · obtain ⟨q, hq, rfl⟩ := List.mem_map.1 hp'
    exact repV_tree h _ _ (by simpa [AVal.tree] using GL.tree q hq) (hg _ hp)
  · rcases List.mem_append.1 hp' with hp'' | hp''
    · obtain ⟨q, hq, rfl⟩ := List.mem_map.1 hp''
      exact repV_tree h _ _ rfl (hg _ hp)
    · obtain ⟨q, hq, rfl⟩ := List.mem_map.1 hp''
      exact repV_tree h _ _ rfl (hg _ hp)
theorem Sim.globs {okA : Nat → Prop} {w0 : Base} {s : ASt} {m : Nat → Option Nat} {a : Act} {w : World} (S : Sim okA w0 s m a w) : Globs (envOf okA w0.new s.heap s.gen m w) := fun p hp => S.pins p (List.mem_append_right _ hp)
theorem lookG_mem {l : List (Nat × List AVal)} {g : Nat} {cells : List AVal} (h : lookG l g = some cells) : (g, cells) ∈ l := by
  induction l with
  | nil => simp [lookG] at h
  | cons p l ih =>
    obtain ⟨k, v⟩ := p
    simp only [lookG] at h
    split at h
    · rename_i e
      simp only [Option.some.injEq] at h
      subst e h
      simp
    · simp [ih h]
theorem globV_rep {E : Env} (hg : Globs E) (g : Nat) : RepV E (globV g) (.pointer (some ⟨g, 0, none⟩)) := by
  unfold globV
  split
  · rename_i cells h
    exact hg (.iptr cells 0, .pointer (some ⟨g, 0, none⟩)) (List.mem_append_left _ (List.mem_map.2 ⟨(g, cells), lookG_mem h, rfl⟩))
  · trivial
theorem glob_row {w : World} {ok : Nat → Prop} (hg : Globs (treeEnv w ok)) {g : Nat} {vs : List Value} (h : (g, vs) ∈ GL.ex) : ∃ T fz, w.heap[g]? = some (.cells vs.toArray T fz) := by
  obtain ⟨b, T, fz, e, _, hb⟩ := hg (.row vs, .pointer (some ⟨g, 0, none⟩)) (List.mem_append_right _ (List.mem_append_left _ (List.mem_map.2 ⟨(g, vs), h, rfl⟩)))
  simp only [Value.pointer.injEq, Option.some.injEq, Addr.mk.injEq] at e
  obtain ⟨rfl, _⟩ := e
  exact ⟨T, fz, hb⟩
theorem glob_kin {w : World} {ok : Nat → Prop} (hg : Globs (treeEnv w ok)) {g c : Nat} (h : (g, c) ∈ GL.shp) : ∃ v, w.cell? ⟨g, 0, none⟩ = some v ∧ kinP c v := by
  obtain ⟨b, base, e, _, ⟨v, hc, _, hv⟩, _⟩ := hg (.iptr [.kin c] 0, .pointer (some ⟨g, 0, none⟩)) (List.mem_append_right _ (List.mem_append_right _ (List.mem_map.2 ⟨(g, c), h, rfl⟩)))
  simp only [Value.pointer.injEq, Option.some.injEq, Addr.mk.injEq] at e
  obtain ⟨rfl, e2, _⟩ := e
  obtain rfl : base = 0 := by omega
  exact ⟨v, hc, hv⟩
theorem glob_int {w : World} {ok : Nat → Prop} (hg : Globs (treeEnv w ok)) {g : Nat} (h : (g, 0) ∈ GL.shp) : ∃ m, w.cell? ⟨g, 0, none⟩ = some (.int .i64 m) := by
  obtain ⟨v, hc, m, rfl⟩ := glob_kin hg h
  exact ⟨m, hc⟩
theorem glob_err {w : World} {ok : Nat → Prop} (hg : Globs (treeEnv w ok)) {g : Nat} (h : (g, 1) ∈ GL.shp) : ∃ t p, w.cell? ⟨g, 0, none⟩ = some (.iface t p) := by
  obtain ⟨v, hc, t, p, rfl⟩ := glob_kin hg h
  exact ⟨t, p, hc⟩
theorem heap_lt {w : World} {b : Nat} {o : Obj} (h : w.heap[b]? = some o) : b < w.heap.size := (Array.getElem?_eq_some_iff.1 h).1

theorem absC_rep (E : Env) (v : Value) : RepV E (absC v) v := by
  unfold absC
  split
  · exact ⟨none, rfl⟩
  · exact ⟨[], rfl, rfl⟩
  · split
    · exact ⟨‹_›, rfl⟩
    · trivial

theorem repA_absC (E : Env) : ∀ (l : List Value), (∀ v ∈ l, v.oneCell' = true) → RepA E (l.map absC) l
  | [], _ => rfl
  | v :: r, h => ⟨v, r, rfl, h v (by simp), absC_rep E v, repA_absC E r fun u hu => h u (by simp [hu])⟩
theorem absV_rep (E : Env) (v : Value) : RepV E (absV v) v := by
  unfold absV
  split
  · split
    · rename_i cs h
      exact ⟨cs.toList, by simp, repA_absC E _ (List.all_eq_true.1 h)⟩
    · trivial
  · exact absC_rep E v

section
variable {P : Program} {okA : Nat → Prop} {w0 : Base} {s : ASt} {m : Nat → Option Nat} {a : Act} {w : World}

theorem Sim.eval (S : Sim okA w0 s m a w) (x : Operand) : RepV (envOf okA w0.new s.heap s.gen m w) (s.eval x) (a.eval x) := by
  cases x with
  | tmp t => exact S.tmps t
  | const v => exact absV_rep _ v
  | global g => exact globV_rep S.globs g
  | func f => exact ⟨[], rfl, rfl⟩

theorem getD_set (l : Array Value) (d t : Nat) (v : Value) (hd : d < l.size) : (l.setIfInBounds d v).getD t undef = if t = d then v else l.getD t undef := by
  simp only [Array.getD_eq_getD_getElem?, Array.getElem?_setIfInBounds]
  by_cases h : t = d
  · subst h; simp [hd]
  · simp [h, Ne.symm h]

theorem Sim.putv (S : Sim okA w0 s m a w) {dst : Option Tmp} {t : AVal} {v : Value} {s' : ASt} (hp : s.put dst t = some s')
    (hv : RepV (envOf okA w0.new s.heap s.gen m w) t v) : Sim okA w0 s' m (a.put dst v) w := by
  unfold ASt.put at hp
  split at hp
  · rename_i d
    split at hp
    · rename_i hd
      simp only [Option.some.injEq] at hp
      subst hp
      refine ⟨by simpa [Act.put, ASt.set] using S.size, by simpa [Act.put] using S.defers, fun t' => ?_, S.pins, S.blks, S.inj, S.below, S.okA, S.K⟩
      simp only [Act.put, ASt.set, upd]
      rw [getD_set _ _ _ _ (by rw [S.size]; exact hd)]
      by_cases h : t' = d
      · simp only [h, if_true]; exact hv
      · simp only [h, if_false]; exact S.tmps t'
    · simp at hp
  · simp only [Option.some.injEq] at hp
    subst hp
    exact ⟨S.size, S.defers, S.tmps, S.pins, S.blks, S.inj, S.below, S.okA, S.K⟩

/-- a temporary whose value is known more exactly -/
theorem Sim.refine (S : Sim okA w0 s m a w) {d : Nat} {t : AVal} (hv : RepV (envOf okA w0.new s.heap s.gen m w) t (a.tmps.getD d undef)) : Sim okA w0 (s.set d t) m a w := by
  refine ⟨S.size, S.defers, fun t' => ?_, S.pins, S.blks, S.inj, S.below, S.okA, S.K⟩
  simp only [ASt.set, upd]
  by_cases h : t' = d
  · simp only [h, if_true]; exact hv
  · simp only [h, if_false]; exact S.tmps t'

theorem BlkOk.mono {okA : Nat → Prop} {B : Nat → Prop} {h h' : Nat → Option Blk} {G G' : Nat} {m m' : Nat → Option Nat} {w w' : World} {β : Nat} {blk : Blk}
    (H : BlkOk okA B h G m w β blk) (hg : G ≤ G') (hm : m' β = m β) (hle : EnvLe (envOf okA B h G m w) (envOf okA B h' G' m' w'))
    (hw : ∀ b, m β = some b → w'.heap[b]? = w.heap[b]?) : BlkOk okA B h' G' m' w' β blk := by
  refine ⟨Nat.lt_of_lt_of_le H.gen hg, fun h => H.virt (hm ▸ h), fun b hb => ?_⟩
  rw [hm] at hb
  obtain ⟨h1, h2, h3⟩ := H.real b hb
  refine ⟨h1, ?_, repC_mono hle (hw b hb) _ _ h3⟩
  rw [hw b hb]; exact h2

theorem lt_of_room {E : Env} {b k : Nat} (h : E.room b k) : b < E.w.heap.size := by
  obtain ⟨arr, T, fz, h, _⟩ := h
  exact heap_lt h

/-- the world has grown; nothing that was there has turned -/
theorem Sim.world (S : Sim okA w0 s m a w) {w' : World} (hb : Below w.heap.size w w') : Sim okA w0 s m a w' := by
  have hle : EnvLe (envOf okA w0.new s.heap s.gen m w) (envOf okA w0.new s.heap s.gen m w') := by
    refine ⟨fun b ⟨h1, h2, h3⟩ => ⟨⟨Nat.lt_of_lt_of_le h1 hb.size, h2, h3⟩, hb.block b h1⟩, Nat.le_refl _, fun β g r sz _ h => ⟨h, fun b k _ hr => ?_⟩⟩
    obtain ⟨arr, T, fz, h1, h2⟩ := hr
    exact ⟨arr, T, fz, (hb.block b (heap_lt h1)).trans h1, h2⟩
  refine ⟨S.size, S.defers, fun t => repV_mono hle _ _ (S.tmps t), fun p hp => repV_mono hle _ _ (S.pins p hp), fun β blk h => (S.blks β blk h).mono (Nat.le_refl _) rfl hle fun b hm => ?_, S.inj, S.below.step hb, S.okA, S.K⟩
  obtain ⟨_, ⟨arr, T, h1, _⟩, _⟩ := (S.blks β blk h).real b hm
  exact hb.block b (heap_lt h1)

/-- a new block, named δ, the value laid in temporary d -/
theorem Sim.newBlk' (S : Sim okA w0 s m a w) {d δ sz : Nat} {cells : List AVal} {t : AVal} (hd : d < s.n) {w' : World} {v : Value} {arr : Array Value} {T : TypeId}
    (hw : Below w.heap.size w w') (hsz : w.heap.size < w'.heap.size) (hnew : w'.heap[w.heap.size]? = some (.cells arr T (0, 0))) (hlen : cells.length ≤ arr.size)
    (hc : RepA (envOf okA w0.new s.heap s.gen m w) cells (arr.toList.take cells.length))
    (hv : RepV (envOf okA w0.new (upd s.heap δ (some ⟨s.gen, sz, cells⟩)) (s.gen + 1) (upd m δ (some w.heap.size)) w') t v) :
    Sim okA w0 { s with tmp := upd s.tmp d t, heap := upd s.heap δ (some ⟨s.gen, sz, cells⟩), gen := s.gen + 1 } (upd m δ (some w.heap.size)) (a.put (some d) v) w' := by
  have hle : EnvLe (envOf okA w0.new s.heap s.gen m w) (envOf okA w0.new (upd s.heap δ (some ⟨s.gen, sz, cells⟩)) (s.gen + 1) (upd m δ (some w.heap.size)) w') := by
    refine ⟨fun b ⟨h1, h2, h3⟩ => ⟨⟨Nat.lt_trans h1 hsz, h2, fun β blk hβ => ?_⟩, hw.block b h1⟩, Nat.le_succ _, fun β g r sz' hg h => ?_⟩
    · by_cases e : β = δ
      · subst e; simp [upd]; omega
      · simp only [upd, e, if_false] at hβ ⊢; exact h3 β blk hβ
    · simp only [envOf, upd] at h hg ⊢
      by_cases e : β = δ
      · simp only [e, if_true] at h
        split at h
        · omega
        · simp at h
      · simp only [e, if_false] at h
        refine ⟨h, fun b k _ hr => ?_⟩
        obtain ⟨arr, T, fz, h1, h2⟩ := hr
        exact ⟨arr, T, fz, (hw.block b (heap_lt h1)).trans h1, h2⟩
  refine ⟨by simpa [Act.put] using S.size, by simpa [Act.put] using S.defers, fun t' => ?_, fun p hp => repV_mono hle _ _ (S.pins p hp), fun β blk h => ?_, fun β β' blk blk' b h h' hm hm' => ?_, S.below.step hw, S.okA, S.K⟩
  · simp only [Act.put]
    rw [getD_set _ _ _ _ (by rw [S.size]; exact hd)]
    by_cases h : t' = d
    · simp only [upd, h, if_true]; exact hv
    · simp only [upd, h, if_false]; exact repV_mono hle _ _ (S.tmps t')
  · by_cases e : β = δ
    · subst e
      simp only [upd, if_true, Option.some.injEq] at h
      subst h
      refine ⟨Nat.lt_succ_self _, fun h => by simp [upd] at h, fun b hb => ?_⟩
      simp only [upd, if_true, Option.some.injEq] at hb
      subst hb
      refine ⟨.inl S.below.size, ⟨arr, T, hnew, hlen⟩, repC_of (vs := arr.toList.take cells.length) (repA_mono hle _ _ hc) fun j v hj => ?_⟩
      show w'.cell? _ = _
      simp only [World.cell?, hnew, Nat.zero_add]
      have : j < cells.length := by
        have := (List.getElem?_eq_some_iff.1 hj).1
        simp at this; omega
      rw [List.getElem?_take_of_lt this] at hj
      simpa using hj
    · simp only [upd, e, if_false] at h
      refine (S.blks β blk h).mono (Nat.le_succ _) (by simp [upd, e]) hle fun b hm => ?_
      obtain ⟨_, ⟨arr, T, h1, _⟩, _⟩ := (S.blks β blk h).real b hm
      exact hw.block b (heap_lt h1)
  · have lt : ∀ β blk b, β ≠ δ → s.heap β = some blk → m β = some b → b < w.heap.size := fun β blk b _ h hm => by
      obtain ⟨_, ⟨arr, T, h1, _⟩, _⟩ := (S.blks β blk h).real b hm
      exact heap_lt h1
    by_cases e : β = δ <;> by_cases e' : β' = δ
    · rw [e, e']
    · simp only [upd, e, e', if_true, if_false, Option.some.injEq] at h h' hm hm'
      have := lt β' blk' b e' h' hm'
      omega
    · simp only [upd, e, e', if_true, if_false, Option.some.injEq] at h h' hm hm'
      have := lt β blk b e h hm
      omega
    · simp only [upd, e, e', if_false] at h h' hm hm'
      exact S.inj β β' blk blk' b h h' hm hm'

/-- a new block, named d -/
theorem Sim.newBlk (S : Sim okA w0 s m a w) {d sz : Nat} {cells : List AVal} {t : AVal} {s' : ASt} (hs : s.new d sz cells t = some s') {w' : World} {v : Value} {arr : Array Value} {T : TypeId}
    (hw : Below w.heap.size w w') (hsz : w.heap.size < w'.heap.size) (hnew : w'.heap[w.heap.size]? = some (.cells arr T (0, 0))) (hlen : cells.length ≤ arr.size)
    (hc : RepA (envOf okA w0.new s.heap s.gen m w) cells (arr.toList.take cells.length))
    (hv : RepV (envOf okA w0.new s'.heap s'.gen (upd m (s.gh.nm d) (some w.heap.size)) w') t v) :
    Sim okA w0 s' (upd m (s.gh.nm d) (some w.heap.size)) (a.put (some d) v) w' := by
  unfold ASt.new at hs
  split at hs
  case isFalse => simp at hs
  rename_i hd
  simp only [Option.some.injEq] at hs
  subst hs
  exact S.newBlk' hd hw hsz hnew hlen hc hv

/-- a block of the function's own is written over; its generation may go up -/
theorem Sim.setBlk (S : Sim okA w0 s m a w) {β b : Nat} {blk blk' : Blk} (hβ : s.heap β = some blk) (hm : m β = some b) {G' : Nat} (hG : s.gen ≤ G') (hsz : blk'.size = blk.size)
    (hgen : blk'.gen = blk.gen ∨ (s.gen ≤ blk'.gen ∧ blk'.gen < G')) {arr arr' : Array Value} {T : TypeId} (hcur : w.heap[b]? = some (.cells arr T (0, 0))) (harr : arr'.size = arr.size)
    (hlen : blk'.cells.length ≤ arr'.size) (hc : RepA (envOf okA w0.new s.heap s.gen m w) blk'.cells (arr'.toList.take blk'.cells.length)) :
    EnvLe (envOf okA w0.new s.heap s.gen m w) (envOf okA w0.new (upd s.heap β (some blk')) G' m (w.setRow b arr')) ∧
    Sim okA w0 { s with heap := upd s.heap β (some blk'), gen := G' } m a (w.setRow b arr') := by
  have hnew := setRow_heap w b arr arr' T (0, 0) hcur
  have hsz' : (w.setRow b arr').heap.size = w.heap.size := by simp [World.setRow]
  have hB := ((S.blks β blk hβ).real b hm).1
  have hle : EnvLe (envOf okA w0.new s.heap s.gen m w) (envOf okA w0.new (upd s.heap β (some blk')) G' m (w.setRow b arr')) := by
    refine ⟨fun b' ⟨h1, h2, h3⟩ => ?_, hG, fun β' g r sz' hg h => ?_⟩
    · have hne : b' ≠ b := fun e => h3 β blk hβ (e ▸ hm)
      refine ⟨⟨by simpa [envOf, hsz'] using h1, h2, fun β' bl hβ' => ?_⟩, setRow_other w b b' arr' hne⟩
      by_cases e : β' = β
      · subst e; exact h3 β' blk hβ
      · simp only [upd, e, if_false] at hβ'; exact h3 β' bl hβ'
    · simp only [envOf, upd] at h hg ⊢
      have room : ∀ b' k, (envOf okA w0.new s.heap s.gen m w).room b' k → (envOf okA w0.new (upd s.heap β (some blk')) G' m (w.setRow b arr')).room b' k := fun b' k hr => by
        obtain ⟨ar, T', fz, h1, h2⟩ := hr
        by_cases e : b' = b
        · subst e
          have h1' : w.heap[b']? = some (.cells ar T' fz) := h1
          rw [hcur] at h1'
          simp only [Option.some.injEq, Obj.cells.injEq] at h1'
          obtain ⟨rfl, _, _⟩ := h1'
          exact ⟨arr', T, (0, 0), hnew, by omega⟩
        · exact ⟨ar, T', fz, (setRow_other w b b' arr' e).trans h1, h2⟩
      by_cases e : β' = β
      · simp only [e, if_true] at h
        split at h
        · rename_i hgg
          rcases hgen with hgen | hgen
          · simp only [Option.some.injEq, Prod.mk.injEq] at h
            obtain ⟨h1, h2⟩ := h
            subst e
            simp only [hβ]
            rw [if_pos (by omega)]
            exact ⟨by rw [h1, ← hsz, h2], fun b' k _ hr => room b' k hr⟩
          · omega
        · simp at h
      · simp only [e, if_false] at h
        exact ⟨h, fun b' k _ hr => room b' k hr⟩
  refine ⟨hle, S.size, S.defers, fun t => repV_mono hle _ _ (S.tmps t), fun p hp => repV_mono hle _ _ (S.pins p hp), fun β' bl h => ?_, fun β1 β2 blk1 blk2 b' h1 h2 hm1 hm2 => ?_, ?_, S.okA, S.K⟩
  · by_cases e : β' = β
    · subst e
      simp only [upd, if_true, Option.some.injEq] at h
      subst h
      have Hb := S.blks β' blk hβ
      refine ⟨?_, fun h => by rw [hm] at h; simp at h, fun b' hb' => ?_⟩
      · show blk'.gen < G'
        have := Hb.gen
        rcases hgen with h | h <;> omega
      · rw [hm] at hb'
        simp only [Option.some.injEq] at hb'
        subst hb'
        refine ⟨hB, ⟨arr', T, hnew, hlen⟩, repC_of (vs := arr'.toList.take blk'.cells.length) (repA_mono hle _ _ hc) fun j v hj => ?_⟩
        show (w.setRow b arr').cell? _ = _
        simp only [World.cell?, hnew, Nat.zero_add]
        have : j < blk'.cells.length := by
          have := (List.getElem?_eq_some_iff.1 hj).1
          simp at this; omega
        rw [List.getElem?_take_of_lt this] at hj
        simpa using hj
    · simp only [upd, e, if_false] at h
      refine (S.blks β' bl h).mono hG rfl hle fun b' hm' => setRow_other w b b' arr' fun eb => e ?_
      exact S.inj β' β bl blk b h hβ (eb ▸ hm') hm
  · have old : ∀ β' bl, upd s.heap β (some blk') β' = some bl → ∃ bl', s.heap β' = some bl' := fun β' bl h => by
      by_cases e : β' = β
      · exact ⟨blk, e ▸ hβ⟩
      · simp only [upd, e, if_false] at h; exact ⟨bl, h⟩
    obtain ⟨_, h1'⟩ := old β1 blk1 h1
    obtain ⟨_, h2'⟩ := old β2 blk2 h2
    exact S.inj β1 β2 _ _ b' h1' h2' hm1 hm2
  · refine S.below.change rfl rfl rfl (by rw [hsz']; exact Nat.le_refl _) (fun k hk hn => setRow_other w b k arr' (fun e => hn (e ▸ hB))) fun k arr1 T1 fz1 _ e1 => ?_
    by_cases e : k = b
    · subst e
      rw [hcur] at e1
      simp only [Option.some.injEq, Obj.cells.injEq] at e1
      exact ⟨arr', T, (0, 0), hnew, by rw [← e1.1, harr]; exact Nat.le_refl _⟩
    · exact ⟨arr1, T1, fz1, (setRow_other w b k arr' e).trans e1, Nat.le_refl _⟩
end
end Go.Own
