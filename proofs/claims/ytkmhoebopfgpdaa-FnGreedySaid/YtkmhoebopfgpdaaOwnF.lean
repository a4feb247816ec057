/-
  OWN WORK, generic over any program: the other operations that yield a value; all of them together.
  OWN WORK, generic over any program: each operation that yields a value yields what the abstract one says, and leaves the world alone.
-/
import Derived.Test.YtkmhoebopfgpdaaOwnD
namespace Go.Own
open Go Go.RowKit
variable [GL]
set_option linter.unusedSectionVars false

theorem ti_spec {P : Program} {t : TypeId} {i : TI} (h : ti P t = some i) : ∃ inf d z, P.info? t = some inf ∧ P.underlying t = some d ∧ inf.zero = some z ∧
    (∀ v ∈ z.cells.toList, v.oneCell' = true) ∧ i = ⟨inf.size, aggD d, inf.bytes, z.cells.toList.map absC, kindOf d⟩ := by
  rw [ti_eq] at h
  unfold ti0 at h
  split at h
  · rename_i inf d h1 h2
    split at h
    · rename_i z hz
      split at h
      · rename_i hall
        simp only [Option.some.injEq] at h
        exact ⟨inf, d, z, h1, h2, hz, List.all_eq_true.1 hall, h.symm⟩
      · simp at h
    · simp at h
  · simp at h

theorem run_sizeOf {P : Program} {t : TypeId} {inf : TypeInfo} (h : P.info? t = some inf) (w : World) : (sizeOf t).run P w = .ok inf.size w := by
  simp [sizeOf, typeInfo, h]
theorem run_isAgg {P : Program} {t : TypeId} {d : TypeDesc} (h : P.underlying t = some d) (w : World) : (isAgg t).run P w = .ok (aggD d) w := by
  simp only [isAgg, Sem.run_bind, run_underlying h, Result.andThen_ok]
  cases d <;> rfl

def agree (w w' : World) : Prop := ∀ b, b < w.heap.size → w'.heap[b]? = w.heap[b]?

theorem run_loadVar {P : Program} {t : TypeId} {i : TI} {E : Env} {cells : List AVal} {b base off : Nat} {x : AVal} (ht : ti P t = some i) (hr : rd i cells off = some x)
    (hc : RepC E cells b base) : ∃ v, RepV E x v ∧ ∀ w' : World, w'.heap[b]? = E.w.heap[b]? → (loadVar t ⟨b, base + off, none⟩).run P w' = .ok v w' := by
  obtain ⟨inf, d, z, h1, h2, h3, h4, rfl⟩ := ti_spec ht
  unfold rd at hr
  split at hr
  · rename_i hagg
    have hagg : aggD d = true := hagg
    split at hr
    · rename_i hlen
      simp only [Option.some.injEq] at hr
      subst hr
      obtain ⟨vs, hv, hcell⟩ := repC_vals (repC_take inf.size (repC_drop off hc))
      have hl := repA_length hv
      simp only [List.length_take, List.length_drop] at hl hlen
      have hl' : vs.length = inf.size := by omega
      refine ⟨.agg vs.toArray, ⟨vs, rfl, hv⟩, fun w' hw => ?_⟩
      have := run_loadCells_list (P := P) w' ⟨b, base + off, none⟩ vs fun j v hj => by
        rw [Addr.add_lit]
        exact (cell_same hw).trans (hcell j v hj)
      rw [hl'] at this
      simp only [loadVar, Sem.run_bind, run_isAgg h2, Result.andThen_ok, hagg, if_true, run_sizeOf h1, this, Sem.run_pure]
    · simp at hr
  · rename_i hagg
    have hagg : aggD d = false := by simpa using hagg
    obtain ⟨v, hcell, _, hv⟩ := repC_get hc hr
    refine ⟨v, hv, fun w' hw => ?_⟩
    have : w'.cell? ⟨b, base + off, none⟩ = some v := (cell_same hw).trans hcell
    simp only [loadVar, Sem.run_bind, run_isAgg h2, Result.andThen_ok, hagg, Bool.false_eq_true, if_false, run_load, this]

theorem flats_rep {E : Env} : ∀ {cs : List AVal} {l : List Value}, flats cs = some l → ∀ {vs}, RepL E cs vs → vs = l
  | [], l, h, vs, hr => by simp [flats] at h; simp only [RepL] at hr; rw [hr, h]
  | .flat u :: r, l, h, vs, ⟨v, r', e, hv, hl⟩ => by
    simp only [flats] at h
    split at h
    · rename_i l' hl'
      simp only [Option.some.injEq] at h
      rw [e, ← h, flats_rep hl' hl, hv.2]
    · simp at h
  | .agg _ :: _, _, h, _, _ | .tup _ :: _, _, h, _, _ | .lst _ _ :: _, _, h, _, _ | .nl :: _, _, h, _, _ | .iptr _ _ :: _, _, h, _, _ | .own _ _ _ _ :: _, _, h, _, _
  | .ptr _ _ _ :: _, _, h, _, _ | .clo _ _ :: _, _, h, _, _ | .bnd _ _ :: _, _, h, _, _ | .row _ :: _, _, h, _, _ | .kin _ :: _, _, h, _, _ | .anyb :: _, _, h, _, _ | .dead :: _, _, h, _, _ => by simp [flats] at h
theorem repA_L {E : Env} : ∀ {cs : List AVal} {vs : List Value}, RepA E cs vs → RepL E cs vs
  | [], _, h => h
  | _ :: _, _, ⟨v, r, e, _, hv, hl⟩ => ⟨v, r, e, hv, repA_L hl⟩
theorem conc_rep {E : Env} {t : AVal} {u v : Value} (h : conc t = some u) (hr : RepV E t v) : v = u := by
  unfold conc at h
  split at h
  · simp only [Option.some.injEq] at h; rw [← h]; exact hr.2
  · split at h
    · rename_i l hl
      simp only [Option.some.injEq] at h
      obtain ⟨vs, e, hA⟩ := hr
      rw [e, ← h, flats_rep hl (repA_L hA)]
    · simp at h
  · simp at h

section
variable {P : Program} {okA : Nat → Prop} {w0 : Base} {s : ASt} {m : Nat → Option Nat} {a : Act} {w : World}

/-- the operation yields a value that reads as 't', in every world that agrees with 'w' -/
def Yields (P : Program) (E : Env) (o : Oper) (a : Act) (w : World) (t : AVal) : Prop :=
  ∃ v, RepV E t v ∧ ∀ w', agree w w' → (execOp a.eval o).run P w' = .ok (.value v) w'

theorem blkOf_spec {β g : Nat} {blk : Blk} (h : blkOf s β g = some blk) : s.heap β = some blk ∧ blk.gen = g := by
  unfold blkOf at h
  split at h
  · split at h
    · simp only [Option.some.injEq] at h; subst h; exact ⟨‹_›, ‹_›⟩
    · simp at h
  · simp at h
theorem loc_of {okA : Nat → Prop} {B : Nat → Prop} {G : Nat} {h : Nat → Option Blk} {β g : Nat} {blk : Blk} (hβ : h β = some blk) (hg : blk.gen = g) : (envOf okA B h G m w).loc β g = some (m β, blk.size) := by
  simp [envOf, hβ, hg]

theorem Sim.load (S : Sim okA w0 s m a w) {t : TypeId} {x y : AVal} {v : Value} (h : aload P s t x = some y) (hx : RepV (envOf okA w0.new s.heap s.gen m w) x v) :
    ∃ ad, v = .pointer (some ad) ∧ ∃ u, RepV (envOf okA w0.new s.heap s.gen m w) y u ∧ ∀ w', agree w w' → (loadVar t ad).run P w' = .ok u w' := by
  unfold aload at h
  split at h
  · rename_i β g off
    split at h
    · rename_i i blk hti hb
      obtain ⟨hβ, hg⟩ := blkOf_spec hb
      obtain ⟨_, _, hp⟩ := hx
      obtain ⟨b, hm, hv⟩ := hp _ _ (loc_of hβ hg)
      obtain ⟨_, ⟨arr, T, hh, _⟩, hc⟩ := (S.blks β blk hβ).real b hm
      obtain ⟨u, hu, hrun⟩ := run_loadVar hti h hc
      refine ⟨_, hv, u, hu, fun w' hw => ?_⟩
      have := hrun w' (hw b (heap_lt hh))
      rwa [Nat.zero_add] at this
    · simp at h
  · rename_i cells off
    split at h
    · rename_i i hti
      obtain ⟨b, base, hv, hok, hc⟩ := hx
      obtain ⟨u, hu, hrun⟩ := run_loadVar hti h hc
      exact ⟨_, hv, u, hu, fun w' hw => hrun w' (hw b hok.1)⟩
    · simp at h
  · simp at h

theorem run_fieldPlace {P : Program} {f : Field} {inf : TypeInfo} (h : P.info? f.type = some inf) (h0 : inf.size ≠ 0) (b off : Nat) (w : World) :
    (fieldPlace ⟨b, off, none⟩ f).run P w = .ok ⟨b, off + f.offset, none⟩ w := by
  simp only [fieldPlace, Sem.run_bind, run_sizeOf h, Result.andThen_ok, h0, if_false, Sem.run_pure, Addr.add_lit]

theorem kind_struct {d : TypeDesc} {fs : List (Nat × TypeId)} (h : kindOf d = .struct fs) : ∃ fields, d = .struct fields ∧ fs = fields.toList.map fun f => (f.offset, f.type) := by
  unfold kindOf at h
  split at h <;> simp at h
  exact ⟨_, rfl, h.symm⟩
theorem kind_slice {d : TypeDesc} {e : TypeId} (h : kindOf d = .slice e) : d = .slice e := by
  unfold kindOf at h
  split at h <;> simp at h
  rw [h]
theorem kind_array {d : TypeDesc} {n : Nat} {e : TypeId} (h : kindOf d = .array n e) : d = .array n e := by
  unfold kindOf at h
  split at h <;> simp at h
  rw [h.1, h.2]
theorem field_get {fields : Array Field} {f o : Nat} {ft : TypeId} (h : (fields.toList.map fun f => (f.offset, f.type))[f]? = some (o, ft)) : ∃ fl, fields[f]? = some fl ∧ fl.offset = o ∧ fl.type = ft := by
  simp only [List.getElem?_map, Option.map_eq_some_iff, Prod.mk.injEq] at h
  obtain ⟨fl, h1, h2, h3⟩ := h
  exact ⟨fl, by simpa using h1, h2, h3⟩

/-- it names no block that is gone -/
def liveE (E : Env) : AVal → Prop
  | .ptr β g _ => ∃ p, E.loc β g = some p
  | .own β g _ _ => ∃ p, E.loc β g = some p
  | _ => True
theorem live_E {x : AVal} (h : live s x = true) : liveE (envOf okA w0.new s.heap s.gen m w) x := by
  unfold live at h
  split at h
  · obtain ⟨blk, hb⟩ := Option.isSome_iff_exists.1 h
    obtain ⟨h1, h2⟩ := blkOf_spec hb
    exact ⟨_, loc_of h1 h2⟩
  · obtain ⟨blk, hb⟩ := Option.isSome_iff_exists.1 h
    obtain ⟨h1, h2⟩ := blkOf_spec hb
    exact ⟨_, loc_of h1 h2⟩
  · rename_i h1 h2
    cases x with
    | ptr => exact absurd rfl (h1 _ _ _)
    | own => exact absurd rfl (h2 _ _ _ _)
    | _ => trivial

theorem fieldAt_sound {E : Env} {t : TypeId} {x y : AVal} {f : Nat} {v : Value} (h : afieldAddr P t x f = some y) (hl : liveE E x) (hx : RepV E x v) : ∃ u, RepV E y u ∧ ∀ w', (Instr.fieldAt t v f).run P w' = .ok u w' := by
  unfold afieldAddr at h
  split at h
  case h_2 => simp at h
  rename_i sz ag by_ z fs hti
  obtain ⟨inf, d, z', h1, h2, h3, h4, he⟩ := ti_spec hti
  simp only [TI.mk.injEq] at he
  obtain ⟨fields, hd, hfs⟩ := kind_struct he.2.2.2.2.symm
  split at h
  case h_2 => simp at h
  rename_i o ft hf
  rw [hfs] at hf
  obtain ⟨fl, hf1, hf2, hf3⟩ := field_get hf
  split at h
  case h_2 => simp at h
  rename_i fi hfi
  obtain ⟨inf', d', z'', g1, g2, g3, g4, ge⟩ := ti_spec hfi
  split at h
  · simp at h
  rename_i hsz
  have hsz' : inf'.size ≠ 0 := by rw [ge] at hsz; exact hsz
  subst hf2 hf3
  have run : ∀ b off w', (Instr.fieldAt t (.pointer (some ⟨b, off, none⟩)) f).run P w' = .ok (.pointer (some ⟨b, off + fl.offset, none⟩)) w' := fun b off w' => by
    simp only [Instr.fieldAt, Sem.run_bind, run_underlying h2, Result.andThen_ok, hd, hf1, Instr.sureAddr, Sem.run_pure, run_fieldPlace g1 hsz']
  split at h
  · rename_i β g off
    simp only [Option.some.injEq] at h
    subst h
    obtain ⟨hg, h1c, hp⟩ := hx
    obtain ⟨p, hl⟩ := hl
    obtain ⟨b, hr, hv⟩ := hp p.1 p.2 hl
    subst hv
    refine ⟨_, ⟨hg, rfl, fun r sz e => ⟨b, ?_, rfl⟩⟩, fun w' => run b off w'⟩
    rw [hl] at e
    simp only [Option.some.injEq] at e
    rw [e] at hr
    exact hr
  · rename_i cells off
    simp only [Option.some.injEq] at h
    subst h
    obtain ⟨b, base, hv, hok, hc⟩ := hx
    subst hv
    exact ⟨_, ⟨b, base, rfl, hok, hc⟩, fun w' => by rw [run]; simp [Nat.add_assoc]⟩
  · simp at h

theorem run_asIntOf (k : IntKind) (i : Int) (w : World) : (asIntOf (.int k i)).run P w = .ok (k, i) w := rfl

theorem indexAt_sound {E : Env} {t : TypeId} {x ix y : AVal} {v vi : Value} (h : aindexAddr P t x ix = some y) (hl : liveE E x) (hx : RepV E x v) (hi : RepV E ix vi) :
    ∃ u, RepV E y u ∧ ∀ w', (Instr.indexAt t v vi).run P w' = .ok u w' := by
  unfold aindexAddr at h
  split at h
  case h_2 => simp at h
  rename_i k i
  obtain ⟨_, rfl⟩ := hi
  split at h
  case h_3 => simp at h
  · -- a slice
    rename_i sz ag by_ z e hti
    obtain ⟨inf, d, z', h1, h2, h3, h4, he⟩ := ti_spec hti
    simp only [TI.mk.injEq] at he
    have hd := kind_slice he.2.2.2.2.symm
    subst hd
    split at h
    case h_2 => simp at h
    rename_i ei hei
    obtain ⟨inf', d', z'', g1, g2, g3, g4, ge⟩ := ti_spec hei
    have hs : inf'.size = ei.size := by rw [ge]
    have run : ∀ (b off len cap : Nat) w', 0 ≤ i → i < len → (Instr.indexAt t (.slice (some ⟨b, off, none⟩) len cap) (.int k i)).run P w' = .ok (.pointer (some ⟨b, off + i.toNat * ei.size, none⟩)) w' := fun b off len cap w' hi0 hi1 => by
      simp only [Instr.indexAt, Sem.run_bind, run_asIntOf, Result.andThen_ok, run_underlying h2, Sem.run_pure, hi0, hi1, and_self, if_true, run_sizeOf g1, Addr.add_lit, hs]
    split at h
    · rename_i cells n
      split at h
      case isFalse => simp at h
      rename_i hc
      obtain ⟨c1, c2, c3, c4⟩ := hc
      simp only [Option.some.injEq] at h
      subst h
      obtain ⟨ad, c, rfl, hn, _, hcells⟩ := hx
      have hne : cells ≠ [] := fun e => by
        rw [e] at c3
        have : ei.size ≤ (i.toNat + 1) * ei.size := Nat.le_mul_of_pos_left _ (Nat.succ_pos _)
        simp at c3
        omega
      obtain ⟨b, off, rfl, hok, hrep⟩ := hcells.resolve_left hne
      exact ⟨_, ⟨b, off, rfl, hok, hrep⟩, fun w' => run b off n c w' c1 c2⟩
    · rename_i β g off n
      split at h
      case isFalse => simp at h
      rename_i hc
      simp only [Option.some.injEq] at h
      subst h
      obtain ⟨hg, _, hp⟩ := hx
      obtain ⟨p, hl⟩ := hl
      obtain ⟨ad, c, rfl, hn, _, hcc⟩ := hp p.1 p.2 hl
      have : c ≠ 0 := by omega
      obtain ⟨b, hb, rfl, _⟩ := hcc.1.resolve_left this
      refine ⟨_, ⟨hg, rfl, fun r sz e => ⟨b, ?_, rfl⟩⟩, fun w' => run b off n c w' hc.1 hc.2⟩
      rw [hl] at e
      simp only [Option.some.injEq] at e
      rw [e] at hb
      exact hb
    · simp at h
  · -- an array's address
    rename_i sz ag by_ z len e hti
    obtain ⟨inf, d, z', h1, h2, h3, h4, he⟩ := ti_spec hti
    simp only [TI.mk.injEq] at he
    have hd := kind_array he.2.2.2.2.symm
    subst hd
    split at h
    case h_2 => simp at h
    rename_i ei hei
    obtain ⟨inf', d', z'', g1, g2, g3, g4, ge⟩ := ti_spec hei
    have hs : inf'.size = ei.size := by rw [ge]
    have run : ∀ (b off : Nat) w', 0 ≤ i → i < len → (Instr.indexAt t (.pointer (some ⟨b, off, none⟩)) (.int k i)).run P w' = .ok (.pointer (some ⟨b, off + i.toNat * ei.size, none⟩)) w' := fun b off w' hi0 hi1 => by
      simp only [Instr.indexAt, Sem.run_bind, run_asIntOf, Result.andThen_ok, run_underlying h2, Instr.sureAddr, Sem.run_pure, hi0, hi1, and_self, if_true, run_sizeOf g1, Addr.add_lit, hs]
    split at h
    · rename_i β g off
      split at h
      case isFalse => simp at h
      rename_i hc
      simp only [Option.some.injEq] at h
      subst h
      obtain ⟨hg, _, hp⟩ := hx
      obtain ⟨p, hl⟩ := hl
      obtain ⟨b, hr, rfl⟩ := hp p.1 p.2 hl
      refine ⟨_, ⟨hg, rfl, fun r sz e => ⟨b, ?_, rfl⟩⟩, fun w' => run b off w' hc.1 hc.2⟩
      rw [hl] at e
      simp only [Option.some.injEq] at e
      rw [e] at hr
      exact hr
    · rename_i cells off
      split at h
      case isFalse => simp at h
      rename_i hc
      simp only [Option.some.injEq] at h
      subst h
      obtain ⟨b, base, rfl, hok, hrep⟩ := hx
      exact ⟨_, ⟨b, base, rfl, hok, hrep⟩, fun w' => by rw [run _ _ _ hc.1 hc.2]; simp [Nat.add_assoc]⟩
    · simp at h
end

theorem foldSet (off : Nat) : ∀ (l : List Value) (k : Nat) (arr : Array Value), off + k + l.length ≤ arr.size →
    (l.zipIdx k).foldl (fun cs (p : Value × Nat) => cs.setIfInBounds (off + p.2) p.1) arr = (arr.toList.take (off + k) ++ l ++ arr.toList.drop (off + k + l.length)).toArray
  | [], k, arr, _ => by simp
  | v :: r, k, arr, h => by
    simp only [List.zipIdx_cons, List.foldl_cons]
    rw [foldSet off r (k + 1) _ (by simp at h ⊢; omega)]
    have e := list_seg_step arr.toList (off + k) v r (by simp at h ⊢; omega)
    congr 1
    simpa [Array.toList_setIfInBounds, Nat.add_assoc] using e

theorem cellsOf_rep {E : Env} {t : AVal} {vs : List AVal} {v : Value} (h : cellsOf t = some vs) (hr : RepV E t v) : ∃ us : List Value, v.cells = us.toArray ∧ RepA E vs us := by
  unfold cellsOf at h
  split at h
  · simp only [Option.some.injEq] at h
    subst h
    obtain ⟨us, rfl, hA⟩ := hr
    exact ⟨us, rfl, hA⟩
  · simp at h
  · simp at h
  · rename_i h1 h2 h3
    simp only [Option.some.injEq] at h
    subst h
    have one : v.oneCell' = true ∧ v.cells = #[v] := by
      cases t with
      | agg cs => exact absurd rfl (h1 cs)
      | tup cs => exact absurd rfl (h3 cs)
      | dead => exact absurd rfl h2
      | flat u =>
        obtain ⟨hs, rfl⟩ := hr
        cases v <;> simp [scalar] at hs <;> exact ⟨rfl, rfl⟩
      | lst cells n => obtain ⟨a, c, rfl, _⟩ := hr; exact ⟨rfl, rfl⟩
      | nl => obtain ⟨a, rfl⟩ := hr; exact ⟨rfl, rfl⟩
      | kin c =>
        match c, hr with
        | 0, hr => obtain ⟨a, rfl⟩ := hr; exact ⟨rfl, rfl⟩
        | 1, hr => obtain ⟨a, b, rfl⟩ := hr; exact ⟨rfl, rfl⟩
        | 2, hr => obtain rfl : v = _ := hr; exact ⟨rfl, rfl⟩
        | c + 3, hr => obtain ⟨a, b, rfl⟩ := hr; exact ⟨rfl, rfl⟩
      | anyb => obtain ⟨a, rfl⟩ := hr; exact ⟨rfl, rfl⟩
      | iptr cells off => obtain ⟨b, base, rfl, _⟩ := hr; exact ⟨rfl, rfl⟩
      | own β g off n => obtain ⟨_, ho, _⟩ := hr; exact ⟨ho, by cases v <;> simp [Value.oneCell'] at ho <;> rfl⟩
      | ptr β g off => obtain ⟨_, ho, _⟩ := hr; exact ⟨ho, by cases v <;> simp [Value.oneCell'] at ho <;> rfl⟩
      | clo f cs => obtain ⟨vs, rfl, _⟩ := hr; exact ⟨rfl, rfl⟩
      | bnd f cs => obtain ⟨vs, rfl, _⟩ := hr; exact ⟨rfl, rfl⟩
      | row vs => obtain ⟨b, T, fz, rfl, _⟩ := hr; exact ⟨rfl, rfl⟩
    exact ⟨[v], one.2, v, [], rfl, one.1, hr, rfl⟩

theorem lay_rep {E : Env} {cells vs : List AVal} {cur us : List Value} {off : Nat} (hc : RepA E cells cur) (hv : RepA E vs us) :
    RepA E (lay cells off vs) (cur.take off ++ us ++ cur.drop (off + us.length)) := by
  unfold lay
  rw [repA_length hv]
  exact repA_append (repA_append (repA_take _ hc) hv) (repA_drop _ hc)

inductive RepP (E : Env) : List (Nat × AVal) → List (Nat × Value) → Prop
  | nil : RepP E [] []
  | cons {i : Nat} {t : AVal} {v : Value} {l : List (Nat × AVal)} {r : List (Nat × Value)} : RepV E t v → RepP E l r → RepP E ((i, t) :: l) ((i, v) :: r)

theorem fill_sound {E : Env} {place : Nat → Option (Nat × Nat)} : ∀ {parts : List (Nat × AVal)} {pv : List (Nat × Value)}, RepP E parts pv → ∀ {cells cs : List AVal} {cur : List Value}, RepA E cells cur →
    afill place cells parts = some cs → ∃ us : List Value, Instr.fill place cur.toArray pv = some us.toArray ∧ RepA E cs us := by
  intro parts pv hp
  induction hp with
  | nil =>
    intro cells cs cur hc h
    simp only [afill, Option.some.injEq] at h
    subst h
    exact ⟨cur, rfl, hc⟩
  | @cons i t v l r hv hl ih =>
    intro cells cs cur hc h
    simp only [afill] at h
    split at h
    · simp at h
    rename_i off size hpl
    split at h
    case h_2 => simp at h
    rename_i vs hvs
    split at h
    case isFalse => simp at h
    rename_i hsz
    obtain ⟨us, hus, hA⟩ := cellsOf_rep hvs hv
    have l1 := repA_length hA
    have l2 := repA_length hc
    obtain ⟨res, h1, h2⟩ := ih (lay_rep hc hA) h
    refine ⟨res, ?_, h2⟩
    have c1 : ¬ (us.length ≠ size ∨ cur.length < off + us.length) := by omega
    simp only [Instr.fill, hpl, hus, List.size_toArray, ne_eq, Bool.or_eq_true, decide_eq_true_eq, gt_iff_lt]
    rw [if_neg c1, ← h1]
    congr 1
    have := foldSet off us 0 cur.toArray (by simp; omega)
    rw [← Array.foldl_toList, Array.toList_zipIdx]
    simpa using this

section
variable {P : Program} {okA : Nat → Prop} {w0 : Base} {s : ASt} {m : Nat → Option Nat} {a : Act} {w : World}

theorem repP_eval (S : Sim okA w0 s m a w) : ∀ (l : List (Nat × Operand)), RepP (envOf okA w0.new s.heap s.gen m w) (l.map fun p => (p.1, s.eval p.2)) (l.map fun p => (p.1, a.eval p.2))
  | [] => .nil
  | p :: r => .cons (S.eval p.2) (repP_eval S r)
theorem repL_eval (S : Sim okA w0 s m a w) : ∀ (l : List Operand), RepL (envOf okA w0.new s.heap s.gen m w) (l.map s.eval) (l.map a.eval)
  | [] => rfl
  | x :: r => ⟨_, _, rfl, S.eval x, repL_eval S r⟩

theorem run_places {P : Program} : ∀ {fields : List Field} {pl : List (Nat × Nat)}, places P (fields.map fun f => (f.offset, f.type)) = some pl → ∀ (w : World),
    (fields.mapM (fun f => do pure (f.offset, ← sizeOf f.type) : Field → Sem (Nat × Nat))).run P w = .ok pl w
  | [], pl, h, w => by simp [places] at h; subst h; simp
  | f :: r, pl, h, w => by
    simp only [List.map_cons, places] at h
    split at h
    · rename_i fi l hfi hl
      obtain ⟨inf, d, z, h1, _, _, _, he⟩ := ti_spec hfi
      simp only [Option.some.injEq] at h
      subst h
      have hs : fi.size = inf.size := by rw [he]
      simp only [List.mapM_cons, Sem.run_bind, run_sizeOf h1, Result.andThen_ok, Sem.run_pure, run_places hl w, hs]
    · simp at h

theorem build_sound (S : Sim okA w0 s m a w) {t : TypeId} {parts : Array (Nat × Operand)} {y : AVal} (h : abuild P s t parts.toList = some y) :
    ∃ u, RepV (envOf okA w0.new s.heap s.gen m w) y u ∧ ∀ w', (Instr.build t (parts.map fun (i, x) => (i, a.eval x))).run P w' = .ok u w' := by
  have hpl : (parts.map fun (i, x) => (i, a.eval x)).toList = parts.toList.map fun p => (p.1, a.eval p.2) := by simp
  unfold abuild at h
  split at h
  case h_3 => simp at h
  · rename_i sz ag by_ z fs hti
    obtain ⟨inf, d, z', h1, h2, h3, h4, he⟩ := ti_spec hti
    simp only [TI.mk.injEq] at he
    obtain ⟨fields, hd, hfs⟩ := kind_struct he.2.2.2.2.symm
    have hz := he.2.2.2.1
    split at h
    case h_2 => simp at h
    rename_i pl hplc
    split at h
    case h_2 => simp at h
    rename_i cs hfill
    simp only [Option.some.injEq] at h
    subst h
    rw [hz] at hfill
    rw [hfs] at hplc
    obtain ⟨us, hus, hA⟩ := fill_sound (repP_eval S parts.toList) (repA_absC _ z'.cells.toList h4) hfill
    refine ⟨.agg us.toArray, ⟨us, rfl, hA⟩, fun w' => ?_⟩
    have hm : (fields.mapM (fun f => do pure (f.offset, ← sizeOf f.type) : Field → Sem (Nat × Nat))).run P w' = .ok pl.toArray w' := by
      have := run_places hplc w'
      rw [Array.mapM_eq_mapM_toList]
      simp only [Sem.run_map, this, Result.andThen_ok]
    have e : (fun i : Nat => pl.toArray[i]?) = fun i : Nat => pl[i]? := by funext i; simp
    simp only [Instr.build, zeroValue, typeInfo, Sem.run_bind, run_program, h1, Result.andThen_ok, Sem.run_pure, h3, run_underlying h2, hd, hm, hpl, e]
    simp only [Array.toArray_toList] at hus
    rw [hus]
    rfl
  · rename_i sz ag by_ z n e hti
    obtain ⟨inf, d, z', h1, h2, h3, h4, he⟩ := ti_spec hti
    simp only [TI.mk.injEq] at he
    have hd := kind_array he.2.2.2.2.symm
    have hz := he.2.2.2.1
    split at h
    case h_2 => simp at h
    rename_i ei hei
    obtain ⟨inf', d', z'', g1, g2, g3, g4, ge⟩ := ti_spec hei
    have hs : ei.size = inf'.size := by rw [ge]
    split at h
    case h_2 => simp at h
    rename_i cs hfill
    simp only [Option.some.injEq] at h
    subst h
    rw [hz] at hfill
    obtain ⟨us, hus, hA⟩ := fill_sound (repP_eval S parts.toList) (repA_absC _ z'.cells.toList h4) hfill
    refine ⟨.agg us.toArray, ⟨us, rfl, hA⟩, fun w' => ?_⟩
    simp only [Instr.build, zeroValue, typeInfo, Sem.run_bind, run_program, h1, Result.andThen_ok, Sem.run_pure, h3, run_underlying h2, hd, run_sizeOf g1, hpl]
    simp only [Array.toArray_toList, hs] at hus
    rw [hus]
    rfl

theorem field_sound {E : Env} {t : TypeId} {x y : AVal} {f : Nat} {v : Value} (h : afield P t x f = some y) (hx : RepV E x v) : ∃ u, RepV E y u ∧ ∀ w', (Instr.field t v f).run P w' = .ok u w' := by
  unfold afield at h
  split at h
  case h_2 => simp at h
  rename_i sz ag by_ z fs cs hti
  obtain ⟨inf, d, z', h1, h2, h3, h4, he⟩ := ti_spec hti
  simp only [TI.mk.injEq] at he
  obtain ⟨fields, hd, hfs⟩ := kind_struct he.2.2.2.2.symm
  split at h
  case h_2 => simp at h
  rename_i o ft hf
  rw [hfs] at hf
  obtain ⟨fl, hf1, hf2, hf3⟩ := field_get hf
  split at h
  case h_2 => simp at h
  rename_i fi hfi
  obtain ⟨inf', d', z'', g1, g2, g3, g4, ge⟩ := ti_spec hfi
  subst hf2 hf3
  obtain ⟨vs, rfl, hA⟩ := hx
  have hsz : fi.size = inf'.size := by rw [ge]
  have hag : fi.agg = aggD d' := by rw [ge]
  unfold part? rd at h
  rw [hsz, hag] at h
  split at h
  · rename_i hagg
    split at h
    case isFalse => simp at h
    simp only [Option.some.injEq] at h
    subst h
    refine ⟨.agg ((vs.drop fl.offset).take inf'.size).toArray, ⟨_, rfl, repA_take _ (repA_drop _ hA)⟩, fun w' => ?_⟩
    simp only [Instr.field, Sem.run_bind, run_underlying h2, Result.andThen_ok, hd, hf1, asAgg, Sem.run_pure, part, run_isAgg g2, hagg, if_true, run_sizeOf g1]
    congr 2
    apply Array.ext'
    simp [List.extract_eq_take_drop]
  · rename_i hagg
    simp only [Bool.not_eq_true] at hagg
    obtain ⟨u, hu, _, hv⟩ := repA_get hA h
    refine ⟨u, hv, fun w' => ?_⟩
    have hu' : vs.toArray[fl.offset]? = some u := by simpa using hu
    simp only [Instr.field, Sem.run_bind, run_underlying h2, Result.andThen_ok, hd, hf1, asAgg, Sem.run_pure, part, run_isAgg g2, hagg, if_false, Bool.false_eq_true, hu']

theorem optI_spec (S : Sim okA w0 s m a w) {d n : Nat} {x : Option Operand} (h : optI s d x = some n) : (x = none ∧ n = d) ∨ ∃ o k, x = some o ∧ a.eval o = .int k n := by
  unfold optI at h
  split at h
  · simp only [Option.some.injEq] at h; exact .inl ⟨rfl, h.symm⟩
  · rename_i o
    split at h
    · rename_i k i he
      split at h
      · rename_i hi
        simp only [Option.some.injEq] at h
        have hr := S.eval o
        rw [he] at hr
        refine .inr ⟨o, k, rfl, ?_⟩
        rw [hr.2, ← h, Int.toNat_of_nonneg hi]
      · simp at h
    · simp at h
theorem run_sliceBound {x : Value} {k : IntKind} {i y : Nat} (hx : x = .int k i) (hi : i ≤ y) (code : BoundsCode) (w' : World) : (Instr.sliceBound x y code).run P w' = .ok i w' := by
  subst hx
  have : (0 : Int) ≤ i ∧ (i : Int) ≤ y := by omega
  simp only [Instr.sliceBound, Sem.run_bind, run_asIntOf, Result.andThen_ok, this, and_self, if_true, Sem.run_pure, Int.toNat_natCast]
theorem run_sliceBounds (S : Sim okA w0 s m a w) {len cap n h l : Nat} {lo hi : Option Operand} (hh : optI s n hi = some h) (hl : optI s 0 lo = some l) (hlh : l ≤ h) (hhn : h ≤ n) (hn : n = len) (hc : len ≤ cap) (w' : World) :
    (Instr.sliceBounds true len cap (lo.map a.eval) (hi.map a.eval) none).run P w' = .ok (l, h, cap) w' := by
  subst hn
  rcases optI_spec S hh with ⟨rfl, rfl⟩ | ⟨o, k, rfl, he⟩ <;> rcases optI_spec S hl with ⟨rfl, rfl⟩ | ⟨o', k', rfl, he'⟩
  · simp only [Instr.sliceBounds, Option.map_none, Sem.run_bind, Sem.run_pure, Result.andThen_ok]
  · simp only [Instr.sliceBounds, Option.map_none, Option.map_some, Sem.run_bind, Sem.run_pure, Result.andThen_ok, run_sliceBound he' hlh]
  · simp only [Instr.sliceBounds, Option.map_none, Option.map_some, Sem.run_bind, Sem.run_pure, Result.andThen_ok, run_sliceBound he (Nat.le_trans hhn hc)]
  · simp only [Instr.sliceBounds, Option.map_some, Sem.run_bind, Sem.run_pure, Result.andThen_ok, run_sliceBound he (Nat.le_trans hhn hc), run_sliceBound he' hlh]
theorem run_sliceBounds0 (S : Sim okA w0 s m a w) {len cap n : Nat} {lo hi : Option Operand} {mx : Operand} (hh : optI s n hi = some 0) (hl : optI s 0 lo = some 0) (hm : optI s n (some mx) = some 0) (w' : World) :
    (hi = none → False) → (Instr.sliceBounds true len cap (lo.map a.eval) (hi.map a.eval) (some (a.eval mx))).run P w' = .ok (0, 0, 0) w' := by
  intro hne
  rcases optI_spec S hm with ⟨h0, _⟩ | ⟨o2, k2, e2, he2⟩
  · simp at h0
  simp only [Option.some.injEq] at e2
  subst e2
  rcases optI_spec S hh with ⟨rfl, _⟩ | ⟨o, k, rfl, he⟩
  · exact (hne rfl).elim
  rcases optI_spec S hl with ⟨rfl, _⟩ | ⟨o', k', rfl, he'⟩
  · simp only [Instr.sliceBounds, Option.map_none, Option.map_some, Sem.run_bind, Sem.run_pure, Result.andThen_ok, run_sliceBound he2 (Nat.zero_le _), run_sliceBound he (Nat.le_refl _)]
  · simp only [Instr.sliceBounds, Option.map_some, Sem.run_bind, Sem.run_pure, Result.andThen_ok, run_sliceBound he2 (Nat.zero_le _), run_sliceBound he (Nat.le_refl _), run_sliceBound he' (Nat.le_refl _)]
end
end Go.Own
