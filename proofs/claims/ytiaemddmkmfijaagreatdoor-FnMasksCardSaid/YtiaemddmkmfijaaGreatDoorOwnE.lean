/-
  OWN WORK, generic over any program: each operation that yields a value yields what the abstract one says, and leaves the world alone.
-/
import Derived.Test.YtiaemddmkmfijaaGreatDoorOwnD
namespace Go.Own
open Go Go.RowKit
variable [GL]
set_option linter.unusedSectionVars false

theorem ti_spec {P : Program} {t : TypeId} {i : TI} (h : ti P t = some i) : ∃ inf d z, P.info? t = some inf ∧ P.underlying t = some d ∧ inf.zero = some z ∧
    (∀ v ∈ z.cells.toList, v.oneCell' = true) ∧ i = ⟨inf.size, aggD d, inf.bytes, z.cells.toList.map absC, kindOf d⟩ := by
  rw [ti_eq] at h
  unfold ti0 at h
  split at h
  · rename_i inf d h1 h2
    split at h
    · rename_i z hz
      split at h
      · rename_i hall
        simp only [Option.some.injEq] at h
        exact ⟨inf, d, z, h1, h2, hz, List.all_eq_true.1 hall, h.symm⟩
      · simp at h
    · simp at h
  · simp at h

theorem run_sizeOf {P : Program} {t : TypeId} {inf : TypeInfo} (h : P.info? t = some inf) (w : World) : (sizeOf t).run P w = .ok inf.size w := by
  simp [sizeOf, typeInfo, h]
theorem run_isAgg {P : Program} {t : TypeId} {d : TypeDesc} (h : P.underlying t = some d) (w : World) : (isAgg t).run P w = .ok (aggD d) w := by
  simp only [isAgg, Sem.run_bind, run_underlying h, Result.andThen_ok]
  cases d <;> rfl

def agree (w w' : World) : Prop := ∀ b, b < w.heap.size → w'.heap[b]? = w.heap[b]?

theorem run_loadVar {P : Program} {t : TypeId} {i : TI} {E : Env} {cells : List AVal} {b base off : Nat} {x : AVal} (ht : ti P t = some i) (hr : rd i cells off = some x)
    (hc : RepC E cells b base) : ∃ v, RepV E x v ∧ ∀ w' : World, w'.heap[b]? = E.w.heap[b]? → (loadVar t ⟨b, base + off, none⟩).run P w' = .ok v w' := by
  obtain ⟨inf, d, z, h1, h2, h3, h4, rfl⟩ := ti_spec ht
  unfold rd at hr
  split at hr
  · rename_i hagg
    have hagg : aggD d = true := hagg
    split at hr
    · rename_i hlen
      simp only [Option.some.injEq] at hr
      subst hr
      obtain ⟨vs, hv, hcell⟩ := repC_vals (repC_take inf.size (repC_drop off hc))
      have hl := repA_length hv
      simp only [List.length_take, List.length_drop] at hl hlen
      have hl' : vs.length = inf.size := by omega
      refine ⟨.agg vs.toArray, ⟨vs, rfl, hv⟩, fun w' hw => ?_⟩
      have := run_loadCells_list (P := P) w' ⟨b, base + off, none⟩ vs fun j v hj => by
        rw [Addr.add_lit]
        exact (cell_same hw).trans (hcell j v hj)
      rw [hl'] at this
      simp only [loadVar, Sem.run_bind, run_isAgg h2, Result.andThen_ok, hagg, if_true, run_sizeOf h1, this, Sem.run_pure]
    · simp at hr
  · rename_i hagg
    have hagg : aggD d = false := by simpa using hagg
    obtain ⟨v, hcell, _, hv⟩ := repC_get hc hr
    refine ⟨v, hv, fun w' hw => ?_⟩
    have : w'.cell? ⟨b, base + off, none⟩ = some v := (cell_same hw).trans hcell
    simp only [loadVar, Sem.run_bind, run_isAgg h2, Result.andThen_ok, hagg, Bool.false_eq_true, if_false, run_load, this]

theorem flats_rep {E : Env} : ∀ {cs : List AVal} {l : List Value}, flats cs = some l → ∀ {vs}, RepL E cs vs → vs = l
  | [], l, h, vs, hr => by simp [flats] at h; simp only [RepL] at hr; rw [hr, h]
  | .flat u :: r, l, h, vs, ⟨v, r', e, hv, hl⟩ => by
    simp only [flats] at h
    split at h
    · rename_i l' hl'
      simp only [Option.some.injEq] at h
      rw [e, ← h, flats_rep hl' hl, hv.2]
    · simp at h
  | .agg _ :: _, _, h, _, _ | .tup _ :: _, _, h, _, _ | .lst _ _ :: _, _, h, _, _ | .nl :: _, _, h, _, _ | .iptr _ _ :: _, _, h, _, _ | .own _ _ _ _ :: _, _, h, _, _
  | .ptr _ _ _ :: _, _, h, _, _ | .clo _ _ :: _, _, h, _, _ | .bnd _ _ :: _, _, h, _, _ | .row _ :: _, _, h, _, _ | .kin _ :: _, _, h, _, _ | .anyb :: _, _, h, _, _ | .dead :: _, _, h, _, _ => by simp [flats] at h
theorem repA_L {E : Env} : ∀ {cs : List AVal} {vs : List Value}, RepA E cs vs → RepL E cs vs
  | [], _, h => h
  | _ :: _, _, ⟨v, r, e, _, hv, hl⟩ => ⟨v, r, e, hv, repA_L hl⟩
theorem conc_rep {E : Env} {t : AVal} {u v : Value} (h : conc t = some u) (hr : RepV E t v) : v = u := by
  unfold conc at h
  split at h
  · simp only [Option.some.injEq] at h; rw [← h]; exact hr.2
  · split at h
    · rename_i l hl
      simp only [Option.some.injEq] at h
      obtain ⟨vs, e, hA⟩ := hr
      rw [e, ← h, flats_rep hl (repA_L hA)]
    · simp at h
  · simp at h

section
variable {P : Program} {okA : Nat → Prop} {w0 : Base} {s : ASt} {m : Nat → Option Nat} {a : Act} {w : World}

/-- the operation yields a value that reads as 't', in every world that agrees with 'w' -/
def Yields (P : Program) (E : Env) (o : Oper) (a : Act) (w : World) (t : AVal) : Prop :=
  ∃ v, RepV E t v ∧ ∀ w', agree w w' → (execOp a.eval o).run P w' = .ok (.value v) w'

theorem blkOf_spec {β g : Nat} {blk : Blk} (h : blkOf s β g = some blk) : s.heap β = some blk ∧ blk.gen = g := by
  unfold blkOf at h
  split at h
  · split at h
    · simp only [Option.some.injEq] at h; subst h; exact ⟨‹_›, ‹_›⟩
    · simp at h
  · simp at h
theorem loc_of {okA : Nat → Prop} {B : Nat → Prop} {G : Nat} {h : Nat → Option Blk} {β g : Nat} {blk : Blk} (hβ : h β = some blk) (hg : blk.gen = g) : (envOf okA B h G m w).loc β g = some (m β, blk.size) := by
  simp [envOf, hβ, hg]

theorem Sim.load (S : Sim okA w0 s m a w) {t : TypeId} {x y : AVal} {v : Value} (h : aload P s t x = some y) (hx : RepV (envOf okA w0.new s.heap s.gen m w) x v) :
    ∃ ad, v = .pointer (some ad) ∧ ∃ u, RepV (envOf okA w0.new s.heap s.gen m w) y u ∧ ∀ w', agree w w' → (loadVar t ad).run P w' = .ok u w' := by
  unfold aload at h
  split at h
  · rename_i β g off
    split at h
    · rename_i i blk hti hb
      obtain ⟨hβ, hg⟩ := blkOf_spec hb
      obtain ⟨_, _, hp⟩ := hx
      obtain ⟨b, hm, hv⟩ := hp _ _ (loc_of hβ hg)
      obtain ⟨_, ⟨arr, T, hh, _⟩, hc⟩ := (S.blks β blk hβ).real b hm
      obtain ⟨u, hu, hrun⟩ := run_loadVar hti h hc
      refine ⟨_, hv, u, hu, fun w' hw => ?_⟩
      have := hrun w' (hw b (heap_lt hh))
      rwa [Nat.zero_add] at this
    · simp at h
  · rename_i cells off
    split at h
    · rename_i i hti
      obtain ⟨b, base, hv, hok, hc⟩ := hx
      obtain ⟨u, hu, hrun⟩ := run_loadVar hti h hc
      exact ⟨_, hv, u, hu, fun w' hw => hrun w' (hw b hok.1)⟩
    · simp at h
  · simp at h

theorem run_fieldPlace {P : Program} {f : Field} {inf : TypeInfo} (h : P.info? f.type = some inf) (h0 : inf.size ≠ 0) (b off : Nat) (w : World) :
    (fieldPlace ⟨b, off, none⟩ f).run P w = .ok ⟨b, off + f.offset, none⟩ w := by
  simp only [fieldPlace, Sem.run_bind, run_sizeOf h, Result.andThen_ok, h0, if_false, Sem.run_pure, Addr.add_lit]

theorem kind_struct {d : TypeDesc} {fs : List (Nat × TypeId)} (h : kindOf d = .struct fs) : ∃ fields, d = .struct fields ∧ fs = fields.toList.map fun f => (f.offset, f.type) := by
  unfold kindOf at h
  split at h <;> simp at h
  exact ⟨_, rfl, h.symm⟩
theorem kind_slice {d : TypeDesc} {e : TypeId} (h : kindOf d = .slice e) : d = .slice e := by
  unfold kindOf at h
  split at h <;> simp at h
  rw [h]
theorem kind_array {d : TypeDesc} {n : Nat} {e : TypeId} (h : kindOf d = .array n e) : d = .array n e := by
  unfold kindOf at h
  split at h <;> simp at h
  rw [h.1, h.2]
theorem field_get {fields : Array Field} {f o : Nat} {ft : TypeId} (h : (fields.toList.map fun f => (f.offset, f.type))[f]? = some (o, ft)) : ∃ fl, fields[f]? = some fl ∧ fl.offset = o ∧ fl.type = ft := by
  simp only [List.getElem?_map, Option.map_eq_some_iff, Prod.mk.injEq] at h
  obtain ⟨fl, h1, h2, h3⟩ := h
  exact ⟨fl, by simpa using h1, h2, h3⟩

/-- it names no block that is gone -/
def liveE (E : Env) : AVal → Prop
  | .ptr β g _ => ∃ p, E.loc β g = some p
  | .own β g _ _ => ∃ p, E.loc β g = some p
  | _ => True
theorem live_E {x : AVal} (h : live s x = true) : liveE (envOf okA w0.new s.heap s.gen m w) x := by
  unfold live at h
  split at h
  · obtain ⟨blk, hb⟩ := Option.isSome_iff_exists.1 h
    obtain ⟨h1, h2⟩ := blkOf_spec hb
    exact ⟨_, loc_of h1 h2⟩
  · obtain ⟨blk, hb⟩ := Option.isSome_iff_exists.1 h
    obtain ⟨h1, h2⟩ := blkOf_spec hb
    exact ⟨_, loc_of h1 h2⟩
  · rename_i h1 h2
    cases x with
    | ptr => exact absurd rfl (h1 _ _ _)
    | own => exact absurd rfl (h2 _ _ _ _)
    | _ => trivial

theorem fieldAt_sound {E : Env} {t : TypeId} {x y : AVal} {f : Nat} {v : Value} (h : afieldAddr P t x f = some y) (hl : liveE E x) (hx : RepV E x v) : ∃ u, RepV E y u ∧ ∀ w', (Instr.fieldAt t v f).run P w' = .ok u w' := by
  unfold afieldAddr at h
  split at h
  case h_2 => simp at h
  rename_i sz ag by_ z fs hti
  obtain ⟨inf, d, z', h1, h2, h3, h4, he⟩ := ti_spec hti
  simp only [TI.mk.injEq] at he
  obtain ⟨fields, hd, hfs⟩ := kind_struct he.2.2.2.2.symm
  split at h
  case h_2 => simp at h
  rename_i o ft hf
  rw [hfs] at hf
  obtain ⟨fl, hf1, hf2, hf3⟩ := field_get hf
  split at h
  case h_2 => simp at h
  rename_i fi hfi
  obtain ⟨inf', d', z'', g1, g2, g3, g4, ge⟩ := ti_spec hfi
  split at h
  · simp at h
  rename_i hsz
  have hsz' : inf'.size ≠ 0 := by rw [ge] at hsz; exact hsz
  subst hf2 hf3
  have run : ∀ b off w', (Instr.fieldAt t (.pointer (some ⟨b, off, none⟩)) f).run P w' = .ok (.pointer (some ⟨b, off + fl.offset, none⟩)) w' := fun b off w' => by
    simp only [Instr.fieldAt, Sem.run_bind, run_underlying h2, Result.andThen_ok, hd, hf1, Instr.sureAddr, Sem.run_pure, run_fieldPlace g1 hsz']
  split at h
  · rename_i β g off
    simp only [Option.some.injEq] at h
    subst h
    obtain ⟨hg, h1c, hp⟩ := hx
    obtain ⟨p, hl⟩ := hl
    obtain ⟨b, hr, hv⟩ := hp p.1 p.2 hl
    subst hv
    refine ⟨_, ⟨hg, rfl, fun r sz e => ⟨b, ?_, rfl⟩⟩, fun w' => run b off w'⟩
    rw [hl] at e
    simp only [Option.some.injEq] at e
    rw [e] at hr
    exact hr
  · rename_i cells off
    simp only [Option.some.injEq] at h
    subst h
    obtain ⟨b, base, hv, hok, hc⟩ := hx
    subst hv
    exact ⟨_, ⟨b, base, rfl, hok, hc⟩, fun w' => by rw [run]; simp [Nat.add_assoc]⟩
  · simp at h

theorem run_asIntOf (k : IntKind) (i : Int) (w : World) : (asIntOf (.int k i)).run P w = .ok (k, i) w := rfl

theorem indexAt_sound {E : Env} {t : TypeId} {x ix y : AVal} {v vi : Value} (h : aindexAddr P t x ix = some y) (hl : liveE E x) (hx : RepV E x v) (hi : RepV E ix vi) :
    ∃ u, RepV E y u ∧ ∀ w', (Instr.indexAt t v vi).run P w' = .ok u w' := by
  unfold aindexAddr at h
  split at h
  case h_2 => simp at h
  rename_i k i
  obtain ⟨_, rfl⟩ := hi
  split at h
  case h_3 => simp at h
  · -- a slice
    rename_i sz ag by_ z e hti
    obtain ⟨inf, d, z', h1, h2, h3, h4, he⟩ := ti_spec hti
    simp only [TI.mk.injEq] at he
    have hd := kind_slice he.2.2.2.2.symm
    subst hd
    split at h
    case h_2 => simp at h
    rename_i ei hei
    obtain ⟨inf', d', z'', g1, g2, g3, g4, ge⟩ := ti_spec hei
    have hs : inf'.size = ei.size := by rw [ge]
    have run : ∀ (b off len cap : Nat) w', 0 ≤ i → i < len → (Instr.indexAt t (.slice (some ⟨b, off, none⟩) len cap) (.int k i)).run P w' = .ok (.pointer (some ⟨b, off + i.toNat * ei.size, none⟩)) w' := fun b off len cap w' hi0 hi1 => by
      simp only [Instr.indexAt, Sem.run_bind, run_asIntOf, Result.andThen_ok, run_underlying h2, Sem.run_pure, hi0, hi1, and_self, if_true, run_sizeOf g1, Addr.add_lit, hs]
    split at h
    · rename_i cells n
      split at h
      case isFalse => simp at h
      rename_i hc
      obtain ⟨c1, c2, c3, c4⟩ := hc
      simp only [Option.some.injEq] at h
      subst h
      obtain ⟨ad, c, rfl, hn, _, hcells⟩ := hx
      have hne : cells ≠ [] := fun e => by
        rw [e] at c3
        have : ei.size ≤ (i.toNat + 1) * ei.size := Nat.le_mul_of_pos_left _ (Nat.succ_pos _)
        simp at c3
        omega
      obtain ⟨b, off, rfl, hok, hrep⟩ := hcells.resolve_left hne
      exact ⟨_, ⟨b, off, rfl, hok, hrep⟩, fun w' => run b off n c w' c1 c2⟩
    · rename_i β g off n
      split at h
      case isFalse => simp at h
      rename_i hc
      simp only [Option.some.injEq] at h
      subst h
      obtain ⟨hg, _, hp⟩ := hx
      obtain ⟨p, hl⟩ := hl
      obtain ⟨ad, c, rfl, hn, _, hcc⟩ := hp p.1 p.2 hl
      have : c ≠ 0 := by omega
      obtain ⟨b, hb, rfl, _⟩ := hcc.1.resolve_left this
      refine ⟨_, ⟨hg, rfl, fun r sz e => ⟨b, ?_, rfl⟩⟩, fun w' => run b off n c w' hc.1 hc.2⟩
      rw [hl] at e
      simp only [Option.some.injEq] at e
      rw [e] at hb
      exact hb
    · simp at h
  · -- an array's address
    rename_i sz ag by_ z len e hti
    obtain ⟨inf, d, z', h1, h2, h3, h4, he⟩ := ti_spec hti
    simp only [TI.mk.injEq] at he
    have hd := kind_array he.2.2.2.2.symm
    subst hd
    split at h
    case h_2 => simp at h
    rename_i ei hei
    obtain ⟨inf', d', z'', g1, g2, g3, g4, ge⟩ := ti_spec hei
    have hs : inf'.size = ei.size := by rw [ge]
    have run : ∀ (b off : Nat) w', 0 ≤ i → i < len → (Instr.indexAt t (.pointer (some ⟨b, off, none⟩)) (.int k i)).run P w' = .ok (.pointer (some ⟨b, off + i.toNat * ei.size, none⟩)) w' := fun b off w' hi0 hi1 => by
      simp only [Instr.indexAt, Sem.run_bind, run_asIntOf, Result.andThen_ok, run_underlying h2, Instr.sureAddr, Sem.run_pure, hi0, hi1, and_self, if_true, run_sizeOf g1, Addr.add_lit, hs]
    split at h
    · rename_i β g off
      split at h
      case isFalse => simp at h
      rename_i hc
      simp only [Option.some.injEq] at h
      subst h
      obtain ⟨hg, _, hp⟩ := hx
      obtain ⟨p, hl⟩ := hl
      obtain ⟨b, hr, rfl⟩ := hp p.1 p.2 hl
      refine ⟨_, ⟨hg, rfl, fun r sz e => ⟨b, ?_, rfl⟩⟩, fun w' => run b off w' hc.1 hc.2⟩
      rw [hl] at e
      simp only [Option.some.injEq] at e
      rw [e] at hr
      exact hr
    · rename_i cells off
      split at h
      case isFalse => simp at h
      rename_i hc
      simp only [Option.some.injEq] at h
      subst h
      obtain ⟨b, base, rfl, hok, hrep⟩ := hx
      exact ⟨_, ⟨b, base, rfl, hok, hrep⟩, fun w' => by rw [run _ _ _ hc.1 hc.2]; simp [Nat.add_assoc]⟩
    · simp at h
end
end Go.Own
