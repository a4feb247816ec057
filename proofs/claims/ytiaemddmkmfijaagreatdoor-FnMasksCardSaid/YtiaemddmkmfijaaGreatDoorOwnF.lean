/-
  OWN WORK, generic over any program: the other operations that yield a value; all of them together.
-/
import Derived.Test.YtiaemddmkmfijaaGreatDoorOwnE
namespace Go.Own
open Go Go.RowKit
variable [GL]
set_option linter.unusedSectionVars false

theorem foldSet (off : Nat) : ∀ (l : List Value) (k : Nat) (arr : Array Value), off + k + l.length ≤ arr.size →
    (l.zipIdx k).foldl (fun cs (p : Value × Nat) => cs.setIfInBounds (off + p.2) p.1) arr = (arr.toList.take (off + k) ++ l ++ arr.toList.drop (off + k + l.length)).toArray
  | [], k, arr, _ => by simp
  | v :: r, k, arr, h => by
    simp only [List.zipIdx_cons, List.foldl_cons]
    rw [foldSet off r (k + 1) _ (by simp at h ⊢; omega)]
    have e := list_seg_step arr.toList (off + k) v r (by simp at h ⊢; omega)
    congr 1
    simpa [Array.toList_setIfInBounds, Nat.add_assoc] using e

theorem cellsOf_rep {E : Env} {t : AVal} {vs : List AVal} {v : Value} (h : cellsOf t = some vs) (hr : RepV E t v) : ∃ us : List Value, v.cells = us.toArray ∧ RepA E vs us := by
  unfold cellsOf at h
  split at h
  · simp only [Option.some.injEq] at h
    subst h
    obtain ⟨us, rfl, hA⟩ := hr
    exact ⟨us, rfl, hA⟩
  · simp at h
  · simp at h
  · rename_i h1 h2 h3
    simp only [Option.some.injEq] at h
    subst h
    have one : v.oneCell' = true ∧ v.cells = #[v] := by
      cases t with
      | agg cs => exact absurd rfl (h1 cs)
      | tup cs => exact absurd rfl (h3 cs)
      | dead => exact absurd rfl h2
      | flat u =>
        obtain ⟨hs, rfl⟩ := hr
        cases v <;> simp [scalar] at hs <;> exact ⟨rfl, rfl⟩
      | lst cells n => obtain ⟨a, c, rfl, _⟩ := hr; exact ⟨rfl, rfl⟩
      | nl => obtain ⟨a, rfl⟩ := hr; exact ⟨rfl, rfl⟩
      | kin c =>
        match c, hr with
        | 0, hr => obtain ⟨a, rfl⟩ := hr; exact ⟨rfl, rfl⟩
        | 1, hr => obtain ⟨a, b, rfl⟩ := hr; exact ⟨rfl, rfl⟩
        | 2, hr => obtain rfl : v = _ := hr; exact ⟨rfl, rfl⟩
        | c + 3, hr => obtain ⟨a, b, rfl⟩ := hr; exact ⟨rfl, rfl⟩
      | anyb => obtain ⟨a, rfl⟩ := hr; exact ⟨rfl, rfl⟩
      | iptr cells off => obtain ⟨b, base, rfl, _⟩ := hr; exact ⟨rfl, rfl⟩
      | own β g off n => obtain ⟨_, ho, _⟩ := hr; exact ⟨ho, by cases v <;> simp [Value.oneCell'] at ho <;> rfl⟩
      | ptr β g off => obtain ⟨_, ho, _⟩ := hr; exact ⟨ho, by cases v <;> simp [Value.oneCell'] at ho <;> rfl⟩
      | clo f cs => obtain ⟨vs, rfl, _⟩ := hr; exact ⟨rfl, rfl⟩
      | bnd f cs => obtain ⟨vs, rfl, _⟩ := hr; exact ⟨rfl, rfl⟩
      | row vs => obtain ⟨b, T, fz, rfl, _⟩ := hr; exact ⟨rfl, rfl⟩
    exact ⟨[v], one.2, v, [], rfl, one.1, hr, rfl⟩

theorem lay_rep {E : Env} {cells vs : List AVal} {cur us : List Value} {off : Nat} (hc : RepA E cells cur) (hv : RepA E vs us) :
    RepA E (lay cells off vs) (cur.take off ++ us ++ cur.drop (off + us.length)) := by
  unfold lay
  rw [repA_length hv]
  exact repA_append (repA_append (repA_take _ hc) hv) (repA_drop _ hc)

inductive RepP (E : Env) : List (Nat × AVal) → List (Nat × Value) → Prop
  | nil : RepP E [] []
  | cons {i : Nat} {t : AVal} {v : Value} {l : List (Nat × AVal)} {r : List (Nat × Value)} : RepV E t v → RepP E l r → RepP E ((i, t) :: l) ((i, v) :: r)

theorem fill_sound {E : Env} {place : Nat → Option (Nat × Nat)} : ∀ {parts : List (Nat × AVal)} {pv : List (Nat × Value)}, RepP E parts pv → ∀ {cells cs : List AVal} {cur : List Value}, RepA E cells cur →
    afill place cells parts = some cs → ∃ us : List Value, Instr.fill place cur.toArray pv = some us.toArray ∧ RepA E cs us := by
  intro parts pv hp
  induction hp with
  | nil =>
    intro cells cs cur hc h
    simp only [afill, Option.some.injEq] at h
    subst h
    exact ⟨cur, rfl, hc⟩
  | @cons i t v l r hv hl ih =>
    intro cells cs cur hc h
    simp only [afill] at h
    split at h
    · simp at h
    rename_i off size hpl
    split at h
    case h_2 => simp at h
    rename_i vs hvs
    split at h
    case isFalse => simp at h
    rename_i hsz
    obtain ⟨us, hus, hA⟩ := cellsOf_rep hvs hv
    have l1 := repA_length hA
    have l2 := repA_length hc
    obtain ⟨res, h1, h2⟩ := ih (lay_rep hc hA) h
    refine ⟨res, ?_, h2⟩
    have c1 : ¬ (us.length ≠ size ∨ cur.length < off + us.length) := by omega
    simp only [Instr.fill, hpl, hus, List.size_toArray, ne_eq, Bool.or_eq_true, decide_eq_true_eq, gt_iff_lt]
    rw [if_neg c1, ← h1]
    congr 1
    have := foldSet off us 0 cur.toArray (by simp; omega)
    rw [← Array.foldl_toList, Array.toList_zipIdx]
    simpa using this

section
variable {P : Program} {okA : Nat → Prop} {w0 : Base} {s : ASt} {m : Nat → Option Nat} {a : Act} {w : World}

theorem repP_eval (S : Sim okA w0 s m a w) : ∀ (l : List (Nat × Operand)), RepP (envOf okA w0.new s.heap s.gen m w) (l.map fun p => (p.1, s.eval p.2)) (l.map fun p => (p.1, a.eval p.2))
  | [] => .nil
  | p :: r => .cons (S.eval p.2) (repP_eval S r)
theorem repL_eval (S : Sim okA w0 s m a w) : ∀ (l : List Operand), RepL (envOf okA w0.new s.heap s.gen m w) (l.map s.eval) (l.map a.eval)
  | [] => rfl
  | x :: r => ⟨_, _, rfl, S.eval x, repL_eval S r⟩

theorem run_places {P : Program} : ∀ {fields : List Field} {pl : List (Nat × Nat)}, places P (fields.map fun f => (f.offset, f.type)) = some pl → ∀ (w : World),
    (fields.mapM (fun f => do pure (f.offset, ← sizeOf f.type) : Field → Sem (Nat × Nat))).run P w = .ok pl w
  | [], pl, h, w => by simp [places] at h; subst h; simp
  | f :: r, pl, h, w => by
    simp only [List.map_cons, places] at h
    split at h
    · rename_i fi l hfi hl
      obtain ⟨inf, d, z, h1, _, _, _, he⟩ := ti_spec hfi
      simp only [Option.some.injEq] at h
      subst h
      have hs : fi.size = inf.size := by rw [he]
      simp only [List.mapM_cons, Sem.run_bind, run_sizeOf h1, Result.andThen_ok, Sem.run_pure, run_places hl w, hs]
    · simp at h

theorem build_sound (S : Sim okA w0 s m a w) {t : TypeId} {parts : Array (Nat × Operand)} {y : AVal} (h : abuild P s t parts.toList = some y) :
    ∃ u, RepV (envOf okA w0.new s.heap s.gen m w) y u ∧ ∀ w', (Instr.build t (parts.map fun (i, x) => (i, a.eval x))).run P w' = .ok u w' := by
  have hpl : (parts.map fun (i, x) => (i, a.eval x)).toList = parts.toList.map fun p => (p.1, a.eval p.2) := by simp
  unfold abuild at h
  split at h
  case h_3 => simp at h
  · rename_i sz ag by_ z fs hti
    obtain ⟨inf, d, z', h1, h2, h3, h4, he⟩ := ti_spec hti
    simp only [TI.mk.injEq] at he
    obtain ⟨fields, hd, hfs⟩ := kind_struct he.2.2.2.2.symm
    have hz := he.2.2.2.1
    split at h
    case h_2 => simp at h
    rename_i pl hplc
    split at h
    case h_2 => simp at h
    rename_i cs hfill
    simp only [Option.some.injEq] at h
    subst h
    rw [hz] at hfill
    rw [hfs] at hplc
    obtain ⟨us, hus, hA⟩ := fill_sound (repP_eval S parts.toList) (repA_absC _ z'.cells.toList h4) hfill
    refine ⟨.agg us.toArray, ⟨us, rfl, hA⟩, fun w' => ?_⟩
    have hm : (fields.mapM (fun f => do pure (f.offset, ← sizeOf f.type) : Field → Sem (Nat × Nat))).run P w' = .ok pl.toArray w' := by
      have := run_places hplc w'
      rw [Array.mapM_eq_mapM_toList]
      simp only [Sem.run_map, this, Result.andThen_ok]
    have e : (fun i : Nat => pl.toArray[i]?) = fun i : Nat => pl[i]? := by funext i; simp
    simp only [Instr.build, zeroValue, typeInfo, Sem.run_bind, run_program, h1, Result.andThen_ok, Sem.run_pure, h3, run_underlying h2, hd, hm, hpl, e]
    simp only [Array.toArray_toList] at hus
    rw [hus]
    rfl
  · rename_i sz ag by_ z n e hti
    obtain ⟨inf, d, z', h1, h2, h3, h4, he⟩ := ti_spec hti
    simp only [TI.mk.injEq] at he
    have hd := kind_array he.2.2.2.2.symm
    have hz := he.2.2.2.1
    split at h
    case h_2 => simp at h
    rename_i ei hei
    obtain ⟨inf', d', z'', g1, g2, g3, g4, ge⟩ := ti_spec hei
    have hs : ei.size = inf'.size := by rw [ge]
    split at h
    case h_2 => simp at h
    rename_i cs hfill
    simp only [Option.some.injEq] at h
    subst h
    rw [hz] at hfill
    obtain ⟨us, hus, hA⟩ := fill_sound (repP_eval S parts.toList) (repA_absC _ z'.cells.toList h4) hfill
    refine ⟨.agg us.toArray, ⟨us, rfl, hA⟩, fun w' => ?_⟩
    simp only [Instr.build, zeroValue, typeInfo, Sem.run_bind, run_program, h1, Result.andThen_ok, Sem.run_pure, h3, run_underlying h2, hd, run_sizeOf g1, hpl]
    simp only [Array.toArray_toList, hs] at hus
    rw [hus]
    rfl

theorem field_sound {E : Env} {t : TypeId} {x y : AVal} {f : Nat} {v : Value} (h : afield P t x f = some y) (hx : RepV E x v) : ∃ u, RepV E y u ∧ ∀ w', (Instr.field t v f).run P w' = .ok u w' := by
  unfold afield at h
  split at h
  case h_2 => simp at h
  rename_i sz ag by_ z fs cs hti
  obtain ⟨inf, d, z', h1, h2, h3, h4, he⟩ := ti_spec hti
  simp only [TI.mk.injEq] at he
  obtain ⟨fields, hd, hfs⟩ := kind_struct he.2.2.2.2.symm
  split at h
  case h_2 => simp at h
  rename_i o ft hf
  rw [hfs] at hf
  obtain ⟨fl, hf1, hf2, hf3⟩ := field_get hf
  split at h
  case h_2 => simp at h
  rename_i fi hfi
  obtain ⟨inf', d', z'', g1, g2, g3, g4, ge⟩ := ti_spec hfi
  subst hf2 hf3
  obtain ⟨vs, rfl, hA⟩ := hx
  have hsz : fi.size = inf'.size := by rw [ge]
  have hag : fi.agg = aggD d' := by rw [ge]
  unfold part? rd at h
  rw [hsz, hag] at h
  split at h
  · rename_i hagg
    split at h
    case isFalse => simp at h
    simp only [Option.some.injEq] at h
    subst h
    refine ⟨.agg ((vs.drop fl.offset).take inf'.size).toArray, ⟨_, rfl, repA_take _ (repA_drop _ hA)⟩, fun w' => ?_⟩
    simp only [Instr.field, Sem.run_bind, run_underlying h2, Result.andThen_ok, hd, hf1, asAgg, Sem.run_pure, part, run_isAgg g2, hagg, if_true, run_sizeOf g1]
    congr 2
    apply Array.ext'
    simp [List.extract_eq_take_drop]
  · rename_i hagg
    simp only [Bool.not_eq_true] at hagg
    obtain ⟨u, hu, _, hv⟩ := repA_get hA h
    refine ⟨u, hv, fun w' => ?_⟩
    have hu' : vs.toArray[fl.offset]? = some u := by simpa using hu
    simp only [Instr.field, Sem.run_bind, run_underlying h2, Result.andThen_ok, hd, hf1, asAgg, Sem.run_pure, part, run_isAgg g2, hagg, if_false, Bool.false_eq_true, hu']

theorem optI_spec (S : Sim okA w0 s m a w) {d n : Nat} {x : Option Operand} (h : optI s d x = some n) : (x = none ∧ n = d) ∨ ∃ o k, x = some o ∧ a.eval o = .int k n := by
  unfold optI at h
  split at h
  · simp only [Option.some.injEq] at h; exact .inl ⟨rfl, h.symm⟩
  · rename_i o
    split at h
    · rename_i k i he
      split at h
      · rename_i hi
        simp only [Option.some.injEq] at h
        have hr := S.eval o
        rw [he] at hr
        refine .inr ⟨o, k, rfl, ?_⟩
        rw [hr.2, ← h, Int.toNat_of_nonneg hi]
      · simp at h
    · simp at h
theorem run_sliceBound {x : Value} {k : IntKind} {i y : Nat} (hx : x = .int k i) (hi : i ≤ y) (code : BoundsCode) (w' : World) : (Instr.sliceBound x y code).run P w' = .ok i w' := by
  subst hx
  have : (0 : Int) ≤ i ∧ (i : Int) ≤ y := by omega
  simp only [Instr.sliceBound, Sem.run_bind, run_asIntOf, Result.andThen_ok, this, and_self, if_true, Sem.run_pure, Int.toNat_natCast]
theorem run_sliceBounds (S : Sim okA w0 s m a w) {len cap n h l : Nat} {lo hi : Option Operand} (hh : optI s n hi = some h) (hl : optI s 0 lo = some l) (hlh : l ≤ h) (hhn : h ≤ n) (hn : n = len) (hc : len ≤ cap) (w' : World) :
    (Instr.sliceBounds true len cap (lo.map a.eval) (hi.map a.eval) none).run P w' = .ok (l, h, cap) w' := by
  subst hn
  rcases optI_spec S hh with ⟨rfl, rfl⟩ | ⟨o, k, rfl, he⟩ <;> rcases optI_spec S hl with ⟨rfl, rfl⟩ | ⟨o', k', rfl, he'⟩
  · simp only [Instr.sliceBounds, Option.map_none, Sem.run_bind, Sem.run_pure, Result.andThen_ok]
  · simp only [Instr.sliceBounds, Option.map_none, Option.map_some, Sem.run_bind, Sem.run_pure, Result.andThen_ok, run_sliceBound he' hlh]
  · simp only [Instr.sliceBounds, Option.map_none, Option.map_some, Sem.run_bind, Sem.run_pure, Result.andThen_ok, run_sliceBound he (Nat.le_trans hhn hc)]
  · simp only [Instr.sliceBounds, Option.map_some, Sem.run_bind, Sem.run_pure, Result.andThen_ok, run_sliceBound he (Nat.le_trans hhn hc), run_sliceBound he' hlh]
theorem run_sliceBounds0 (S : Sim okA w0 s m a w) {len cap n : Nat} {lo hi : Option Operand} {mx : Operand} (hh : optI s n hi = some 0) (hl : optI s 0 lo = some 0) (hm : optI s n (some mx) = some 0) (w' : World) :
    (hi = none → False) → (Instr.sliceBounds true len cap (lo.map a.eval) (hi.map a.eval) (some (a.eval mx))).run P w' = .ok (0, 0, 0) w' := by
  intro hne
  rcases optI_spec S hm with ⟨h0, _⟩ | ⟨o2, k2, e2, he2⟩
  · simp at h0
  simp only [Option.some.injEq] at e2
  subst e2
  rcases optI_spec S hh with ⟨rfl, _⟩ | ⟨o, k, rfl, he⟩
  · exact (hne rfl).elim
  rcases optI_spec S hl with ⟨rfl, _⟩ | ⟨o', k', rfl, he'⟩
  · simp only [Instr.sliceBounds, Option.map_none, Option.map_some, Sem.run_bind, Sem.run_pure, Result.andThen_ok, run_sliceBound he2 (Nat.zero_le _), run_sliceBound he (Nat.le_refl _)]
  · simp only [Instr.sliceBounds, Option.map_some, Sem.run_bind, Sem.run_pure, Result.andThen_ok, run_sliceBound he2 (Nat.zero_le _), run_sliceBound he (Nat.le_refl _), run_sliceBound he' (Nat.le_refl _)]
end
end Go.Own
