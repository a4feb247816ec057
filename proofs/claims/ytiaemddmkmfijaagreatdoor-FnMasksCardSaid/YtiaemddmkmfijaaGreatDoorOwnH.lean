/-
  OWN WORK, generic over any program: the operations that make memory or write it.
-/
import Derived.Test.YtiaemddmkmfijaaGreatDoorOwnG
namespace Go.Own
open Go Go.RowKit
variable [GL]
set_option linter.unusedSectionVars false

section
variable {P : Program} {okA : Nat → Prop} {w0 : Base} {s : ASt} {m : Nat → Option Nat} {a : Act} {w : World}

theorem below_alloc (w : World) (o : Obj) : Below w.heap.size w (w.alloc o) := (Below.refl _ w).alloc (Nat.le_refl _) o

/-- what an operation with an effect comes to: a value or nothing, in a world that the new state describes -/
def Effects (P : Program) (okA : Nat → Prop) (w0 : Base) (o : Oper) (a : Act) (w : World) (s' : ASt) : Prop :=
  (∃ v w' m', (execOp a.eval o).run P w = .ok (.value v) w' ∧ Sim okA w0 s' m' (a.put o.dst v) w') ∨
  (∃ w' m', (execOp a.eval o).run P w = .ok .skip w' ∧ o.dst = none ∧ Sim okA w0 s' m' a w')

theorem repA_replicate {E : Env} {z : List AVal} {us : List Value} (h : RepA E z us) : ∀ n : Nat, RepA E (List.replicate n z).flatten (List.replicate n us).flatten
  | 0 => rfl
  | n + 1 => by simpa [List.replicate_succ] using repA_append h (repA_replicate h n)

theorem made_take (z : List Value) : ∀ n : Nat, z ≠ [] → (List.range (n * z.length)).map (fun i => z[i % z.length]!) = (List.replicate n z).flatten
  | 0, _ => by simp
  | n + 1, hz => by
    rw [Nat.add_mul, Nat.one_mul, List.range_add, List.map_append, made_take z n hz, List.replicate_succ']
    simp only [List.flatten_append, List.flatten_cons, List.flatten_nil, List.append_nil]
    congr 1
    have hpos : 0 < z.length := List.length_pos_iff.2 hz
    apply List.ext_getElem
    · simp
    · intro i h1 h2
      simp only [List.getElem_map, List.getElem_range]
      have : (n * z.length + i) % z.length = i := by
        rw [Nat.add_comm, Nat.add_mul_mod_self_right, Nat.mod_eq_of_lt h2]
      rw [this, getElem!_pos z i h2]

theorem new_n {d sz : Nat} {cells : List AVal} {t : AVal} {s' : ASt} (h : s.new d sz cells t = some s') : d < s.n ∧ s'.heap = upd s.heap (s.gh.nm d) (some ⟨s.gen, sz, cells⟩) ∧ s'.gen = s.gen + 1 := by
  unfold ASt.new at h
  split at h
  · simp only [Option.some.injEq] at h; subst h; exact ⟨‹_›, rfl, rfl⟩
  · simp at h

theorem new_eq {d sz : Nat} {cells : List AVal} {t : AVal} {s' : ASt} (h : s.new d sz cells t = some s') : d < s.n ∧ s' = { s with tmp := upd s.tmp d t, heap := upd s.heap (s.gh.nm d) (some ⟨s.gen, sz, cells⟩), gen := s.gen + 1 } := by
  unfold ASt.new at h
  split at h
  · simp only [Option.some.injEq] at h; exact ⟨‹_›, h.symm⟩
  · simp at h

theorem ptr_new {d sz : Nat} {cells : List AVal} {t : AVal} {s' : ASt} (h : s.new d sz cells t = some s') (w' : World) (b : Nat) :
    RepV (envOf okA w0.new s'.heap s'.gen (upd m (s.gh.nm d) (some b)) w') (.ptr (s.gh.nm d) s.gen 0) (.pointer (some ⟨b, 0, none⟩)) := by
  obtain ⟨_, h1, h2⟩ := new_n h
  refine ⟨by rw [h2]; exact Nat.lt_succ_self _, rfl, fun r sz' e => ⟨b, ?_, rfl⟩⟩
  simp only [envOf, h1, upd, if_true, Option.some.injEq, Prod.mk.injEq] at e
  exact e.1.symm
theorem own_new {d sz : Nat} {cells : List AVal} {t : AVal} {s' : ASt} (h : s.new d sz cells t = some s') (w' : World) (b n c : Nat) (hn : n ≤ c) (hc : c ≤ maxI) (hc0 : c ≠ 0) {arr : Array Value} {T : TypeId}
    (hb : w'.heap[b]? = some (.cells arr T (0, 0))) (hroom : c * sz ≤ arr.size) :
    RepV (envOf okA w0.new s'.heap s'.gen (upd m (s.gh.nm d) (some b)) w') (.own (s.gh.nm d) s.gen 0 n) (.slice (some ⟨b, 0, none⟩) n c) := by
  obtain ⟨_, h1, h2⟩ := new_n h
  refine ⟨by rw [h2]; exact Nat.lt_succ_self _, rfl, fun r sz' e => ⟨_, c, rfl, hn, hc, .inr ⟨b, ?_, rfl, arr, T, (0, 0), hb, ?_⟩, fun _ h => (hc0 h).elim⟩⟩
  · simp only [envOf, h1, upd, if_true, Option.some.injEq, Prod.mk.injEq] at e
    exact e.1.symm
  · simp only [envOf, h1, upd, if_true, Option.some.injEq, Prod.mk.injEq] at e
    rw [Nat.zero_add, ← e.2]; exact hroom

/-- a block that lies nowhere -/
theorem Sim.newVirt (S : Sim okA w0 s m a w) {d δ sz : Nat} (hdn : d < s.n) (ad : Option Addr) :
    Sim okA w0 { s with tmp := upd s.tmp d (.own δ s.gen 0 0), heap := upd s.heap δ (some ⟨s.gen, sz, []⟩), gen := s.gen + 1 } (upd m δ none) (a.put (some d) (.slice ad 0 0)) w := by
  have hle : EnvLe (envOf okA w0.new s.heap s.gen m w) (envOf okA w0.new (upd s.heap δ (some ⟨s.gen, sz, []⟩)) (s.gen + 1) (upd m δ none) w) := by
    refine ⟨fun b ⟨q1, q2, q3⟩ => ⟨⟨q1, q2, fun β blk hβ => ?_⟩, rfl⟩, Nat.le_succ _, fun β g r sz' hg' hl => ?_⟩
    · by_cases e : β = δ
      · subst e; simp [upd]
      · simp only [upd, e, if_false] at hβ ⊢; exact q3 β blk hβ
    · simp only [envOf, upd] at hl hg' ⊢
      by_cases e : β = δ
      · simp only [e, if_true] at hl
        split at hl
        · omega
        · simp at hl
      · simp only [e, if_false] at hl
        exact ⟨hl, fun b k _ hr => hr⟩
  refine ⟨by simpa [Act.put] using S.size, by simpa [Act.put] using S.defers, fun t' => ?_, fun p hp => repV_mono hle _ _ (S.pins p hp), fun β blk h => ?_, fun β β' blk blk' b h h' hm hm' => ?_, S.below, S.okA, S.K⟩
  · simp only [Act.put]
    rw [getD_set _ _ _ _ (by rw [S.size]; exact hdn)]
    by_cases h : t' = d
    · simp only [upd, h, if_true]
      refine ⟨Nat.lt_succ_self _, rfl, fun r sz' e => ⟨ad, 0, rfl, Nat.le_refl _, Nat.zero_le _, .inl rfl, fun _ _ => ?_⟩⟩
      simp only [envOf, upd, if_true, Option.some.injEq, Prod.mk.injEq] at e
      exact e.1.symm
    · simp only [upd, h, if_false]; exact repV_mono hle _ _ (S.tmps t')
  · by_cases e : β = δ
    · subst e
      simp only [upd, if_true, Option.some.injEq] at h
      subst h
      exact ⟨Nat.lt_succ_self _, fun _ => rfl, fun b hb => by simp [upd] at hb⟩
    · simp only [upd, e, if_false] at h
      exact (S.blks β blk h).mono (Nat.le_succ _) (by simp [upd, e]) hle fun b hm => rfl
  · by_cases e : β = δ
    · simp [upd, e] at hm
    · by_cases e' : β' = δ
      · simp [upd, e'] at hm'
      · simp only [upd, e, e', if_false] at h h' hm hm'
        exact S.inj β β' blk blk' b h h' hm hm'
theorem Sim.newVirt' (S : Sim okA w0 s m a w) {d sz : Nat} {s' : ASt} (h : s.new d sz [] (.own (s.gh.nm d) s.gen 0 0) = some s') (ad : Option Addr) : Sim okA w0 s' (upd m (s.gh.nm d) none) (a.put (some d) (.slice ad 0 0)) w := by
  obtain ⟨hd, rfl⟩ := new_eq h
  exact S.newVirt hd ad

theorem alloc_sound (S : Sim okA w0 s m a w) {d : Nat} {t : TypeId} {i : TI} {s' : ASt} (hti : ti P t = some i) (h : s.new d i.size i.zero (.ptr (s.gh.nm d) s.gen 0) = some s') :
    ∃ v w' m', (Instr.alloc t true (.tuple #[])).run P w = .ok v w' ∧ Sim okA w0 s' m' (a.put (some d) v) w' := by
  obtain ⟨inf, dd, z, h1, h2, h3, h4, rfl⟩ := ti_spec hti
  refine ⟨.pointer (some ⟨w.heap.size, 0, none⟩), w.alloc (.cells z.cells t), _, ?_, S.newBlk h (below_alloc w _) (by simp) (heap_alloc_new w _) (by simp) ?_ (ptr_new h _ _)⟩
  · simp [Instr.alloc, zeroValue, typeInfo, h1, h3, newVar, newRow]
  · have := repA_absC (envOf okA w0.new s.heap s.gen m w) z.cells.toList h4
    rw [List.take_of_length_le (by simp)]
    exact this

theorem box_sound (S : Sim okA w0 s m a w) {d sz : Nat} {t : TypeId} {x : AVal} {v : Value} {vs : List AVal} {s' : ASt} (hx : RepV (envOf okA w0.new s.heap s.gen m w) x v) (hc : cellsOf x = some vs)
    (h : s.new d sz vs (.ptr (s.gh.nm d) s.gen 0) = some s') : ∃ u w' m', (Instr.box t v).run P w = .ok u w' ∧ Sim okA w0 s' m' (a.put (some d) u) w' := by
  obtain ⟨us, hus, hA⟩ := cellsOf_rep hc hx
  have hl := repA_length hA
  refine ⟨.pointer (some ⟨w.heap.size, 0, none⟩), w.alloc (.cells us.toArray t), _, ?_, S.newBlk h (below_alloc w _) (by simp) (heap_alloc_new w _) (by simp [hl]) ?_ (ptr_new h _ _)⟩
  · simp [Instr.box, newVar, newRow, hus]
  · simpa [hl] using hA

theorem makeSlice_sound (S : Sim okA w0 s m a w) {d : Nat} {t : TypeId} {l c : AVal} {vl vc : Value} {s' : ASt} (hl : RepV (envOf okA w0.new s.heap s.gen m w) l vl)
    (hc : RepV (envOf okA w0.new s.heap s.gen m w) c vc) (h : amakeSlice P s d t l c = some s') :
    ∃ u w' m', (Instr.makeSlice t vl vc).run P w = .ok u w' ∧ Sim okA w0 s' m' (a.put (some d) u) w' := by
  unfold amakeSlice at h
  split at h
  case h_2 => simp at h
  rename_i sz ag by_ z e hti
  obtain ⟨inf, d', z', h1, h2, h3, h4, he⟩ := ti_spec hti
  simp only [TI.mk.injEq] at he
  have hd := kind_slice he.2.2.2.2.symm
  subst hd
  split at h
  case h_2 => simp at h
  rename_i ei hei
  obtain ⟨inf', d'', z'', g1, g2, g3, g4, rfl⟩ := ti_spec hei
  split at h
  case h_2 => simp at h
  rename_i kl l kc c
  obtain ⟨_, rfl⟩ := hl
  obtain ⟨_, rfl⟩ := hc
  split at h
  case isFalse => simp at h
  rename_i hcond
  obtain ⟨c1, c2, c3, c4, c5, c6⟩ := hcond
  have c5' : z''.cells.toList.length = inf'.size := by simpa using c5
  have hz0 : z''.cells.toList ≠ [] := fun e => by rw [e] at c5'; simp at c5'; exact c6 c5'.symm
  have hrun := run_make (P := P) w t e inf' z'' h2 g1 g3 kl kc l c c1 c2 (by rw [Int.mul_comm]; exact c4) c3
  have hlc : l.toNat ≤ c.toNat := by omega
  have hmade : (madeCells z''.cells (c.toNat * inf'.size)).toList = (List.replicate c.toNat z''.cells.toList).flatten := by
    have := made_take z''.cells.toList c.toNat hz0
    rw [← this, c5']
    simp [madeCells, ← c5', ← Array.getElem!_toList]
  have hlen : (List.replicate l.toNat (List.map absC z''.cells.toList)).flatten.length = l.toNat * inf'.size := by simp [← c5']
  by_cases hc0 : c.toNat = 0
  · have hl0 : l.toNat = 0 := by omega
    rw [hl0, hc0] at hrun
    rw [hl0] at h
    exact ⟨_, _, _, hrun, (S.world (below_alloc w _)).newVirt' h _⟩
  refine ⟨_, _, _, hrun, S.newBlk h (below_alloc w _) (by simp) (heap_alloc_new w _) ?_ ?_ ?_⟩
  · rw [hlen, size_madeCells]; exact Nat.mul_le_mul_right _ hlc
  · rw [hmade, hlen]
    have e1 : (List.replicate c.toNat z''.cells.toList).flatten.take (l.toNat * inf'.size) = (List.replicate l.toNat z''.cells.toList).flatten := by
      have : c.toNat = l.toNat + (c.toNat - l.toNat) := by omega
      rw [this, ← List.replicate_append_replicate, List.flatten_append]
      rw [List.take_append_of_le_length (by simp [← c5'])]
      rw [List.take_of_length_le (by simp [← c5'])]
    rw [e1]
    exact repA_replicate (repA_absC _ _ g4) _
  · exact own_new h _ _ _ _ hlc (by simp only [maxI]; omega) hc0 (heap_alloc_new w _) (by rw [size_madeCells]; exact Nat.le_refl _)

theorem foldl_size (off : Nat) : ∀ (q : List (Value × Nat)) (x : Array Value), (q.foldl (fun cs p => cs.setIfInBounds (off + p.2) p.1) x).size = x.size
  | [], _ => rfl
  | p :: r, x => by simp only [List.foldl_cons]; rw [foldl_size off r]; simp
theorem fill_size {place : Nat → Option (Nat × Nat)} : ∀ {pv : List (Nat × Value)} {x y : Array Value}, Instr.fill place x pv = some y → y.size = x.size
  | [], x, y, h => by simp only [Instr.fill, Option.some.injEq] at h; rw [h]
  | (i, v) :: r, x, y, h => by
    simp only [Instr.fill] at h
    split at h
    · simp at h
    split at h
    · simp at h
    exact (fill_size h).trans (by rw [← Array.foldl_toList]; exact foldl_size _ _ _)

theorem buildSlice_sound (S : Sim okA w0 s m a w) {d len : Nat} {t : TypeId} {parts : Array (Nat × Operand)} {s' : ASt} (h : abuildSlice P s d t len parts.toList = some s') :
    ∃ u w' m', (Instr.buildSlice t len (parts.map fun (i, x) => (i, a.eval x))).run P w = .ok u w' ∧ Sim okA w0 s' m' (a.put (some d) u) w' := by
  have hpl : (parts.map fun (i, x) => (i, a.eval x)).toList = parts.toList.map fun p => (p.1, a.eval p.2) := by simp
  unfold abuildSlice at h
  split at h
  case h_2 => simp at h
  rename_i sz ag by_ z e hti
  obtain ⟨inf, d', z', h1, h2, h3, h4, he⟩ := ti_spec hti
  simp only [TI.mk.injEq] at he
  have hd := kind_slice he.2.2.2.2.symm
  subst hd
  split at h
  case h_2 => simp at h
  rename_i ei hei
  obtain ⟨inf', d'', z'', g1, g2, g3, g4, rfl⟩ := ti_spec hei
  split at h
  case isFalse => simp at h
  rename_i hcond
  obtain ⟨c4, c5, c6⟩ := hcond
  have c4 : len * inf'.size ≤ 16777216 := c4
  have c5' : z''.cells.toList.length = inf'.size := by simpa using c5
  have c6' : inf'.size ≠ 0 := c6
  have hz0 : z''.cells.toList ≠ [] := fun e => by rw [e] at c5'; simp at c5'; exact c6 c5'.symm
  split at h
  case h_2 => simp at h
  rename_i cs hfill
  have hmade : ((Array.range (len * inf'.size)).map (fun i => z''.cells[i % z''.cells.size]!)) = (List.replicate len z''.cells.toList).flatten.toArray := by
    apply Array.ext'
    have := made_take z''.cells.toList len hz0
    rw [List.toList_toArray, ← this, c5']
    simp [← c5', ← Array.getElem!_toList]
  have hA0 := repA_replicate (repA_absC (envOf okA w0.new s.heap s.gen m w) z''.cells.toList g4) len
  obtain ⟨us, hus, hA⟩ := fill_sound (repP_eval S parts.toList) hA0 hfill
  have hl := repA_length hA
  have hsz : us.length = len * inf'.size := by
    have := fill_size hus
    simpa [← c5'] using this
  have hrun : (Instr.buildSlice t len (parts.map fun (i, x) => (i, a.eval x))).run P w = .ok (.slice (some ⟨w.heap.size, 0, none⟩) len len) (w.alloc (.cells us.toArray e)) := by
    have hus' : Instr.fill (fun i => some (i * inf'.size, inf'.size)) (List.replicate len z''.cells.toList).flatten.toArray (parts.toList.map fun p => (p.1, a.eval p.2)) = some us.toArray := hus
    have n1 : ¬ (16777216 < len * inf'.size) := by omega
    simp only [Instr.buildSlice, Sem.run_bind, run_underlying h2, Result.andThen_ok, run_sizeOf g1, hpl]
    rw [if_neg (by simpa using n1)]
    by_cases h0 : len * inf'.size = 0
    · have hz : (Array.range (len * inf'.size)).map (fun i => (#[] : Array Value)[i % (#[] : Array Value).size]!) = (List.replicate len z''.cells.toList).flatten.toArray := by
        rw [← hmade, h0]; simp
      rw [if_pos h0]
      simp only [Sem.run_bind, Sem.run_pure, Result.andThen_ok, hz, hus', newRow, run_newObj, World.alloc_eq]
    · rw [if_neg h0]
      simp only [Sem.run_bind, zeroValue, typeInfo, run_program, g1, g3, Sem.run_pure, Result.andThen_ok, hmade, hus', newRow, run_newObj, World.alloc_eq]
  by_cases hc0 : len = 0
  · subst hc0
    have hcs : cs = [] := List.eq_nil_of_length_eq_zero (by rw [hl, hsz]; simp)
    subst hcs
    exact ⟨_, _, _, hrun, (S.world (below_alloc w _)).newVirt' h _⟩
  refine ⟨_, _, _, hrun, S.newBlk h (below_alloc w _) (by simp) (heap_alloc_new w _) (by simp [hl]) (by simpa [hl] using hA) (own_new h _ _ _ _ (Nat.le_refl _) ?_ hc0 (heap_alloc_new w _) (by simp [hsz]))⟩
  have : len ≤ len * inf'.size := Nat.le_mul_of_pos_right _ (by omega)
  simp only [maxI]; omega

theorem take_lay (A : List Value) (n off : Nat) (us : List Value) (h : off + us.length ≤ n) (hn : n ≤ A.length) :
    (A.take off ++ us ++ A.drop (off + us.length)).take n = (A.take n).take off ++ us ++ (A.take n).drop (off + us.length) := by
  have hl : (A.take off ++ us).length = off + us.length := by simp; omega
  rw [List.take_append, List.take_of_length_le (by omega), hl, List.take_take, Nat.min_eq_left (by omega), List.drop_take]

theorem store_sound (S : Sim okA w0 s m a w) {t : TypeId} {x y : AVal} {vx vy : Value} {s' : ASt} (hx : RepV (envOf okA w0.new s.heap s.gen m w) x vx)
    (hy : RepV (envOf okA w0.new s.heap s.gen m w) y vy) (h : astore P s t x y = some s') :
    ∃ w', (Instr.storeAt t vx vy).run P w = .ok () w' ∧ Sim okA w0 s' m a w' := by
  unfold astore at h
  split at h
  case h_2 => simp at h
  rename_i i hti
  obtain ⟨inf, d, z, h1, h2, h3, h4, rfl⟩ := ti_spec hti
  split at h
  case h_2 => simp at h
  rename_i vs hvs
  split at h
  case isFalse => simp at h
  rename_i hlen
  split at h
  case h_2 => simp at h
  rename_i β g off
  split at h
  case h_2 => simp at h
  rename_i blk hb
  split at h
  case isFalse => simp at h
  rename_i hfit
  simp only [Option.some.injEq] at h
  subst h
  have hlen : vs.length = inf.size := hlen
  have hfit : off + inf.size ≤ blk.cells.length := hfit
  obtain ⟨us, hus, hA⟩ := cellsOf_rep hvs hy
  have hul := repA_length hA
  obtain ⟨hβ, hg⟩ := blkOf_spec hb
  obtain ⟨_, _, hp⟩ := hx
  obtain ⟨b, hm, rfl⟩ := hp _ _ (loc_of hβ hg)
  obtain ⟨hB, ⟨arr, T, hcur, hsz⟩, hC⟩ := (S.blks β blk hβ).real b hm
  obtain ⟨cur, hcurA, hcell⟩ := repC_vals hC
  have hcl := repA_length hcurA
  have hpre : arr.toList.take blk.cells.length = cur := by
    apply List.ext_getElem
    · simp; omega
    · intro j h1 h2
      have := hcell j cur[j] (List.getElem?_eq_getElem h2)
      simp only [Nat.zero_add] at this
      have e : w.cell? ⟨b, j, none⟩ = arr[j]? := by simp [World.cell?, hcur]
      have e2 : arr[j]? = some cur[j] := e ▸ this
      simp only [List.getElem_take]
      have hj : j < arr.size := by omega
      rw [Array.getElem?_eq_getElem hj] at e2
      simpa using e2
  have hst := run_storeCells_at P b off T us 0 arr w hcur (by omega) (fun u hu => repA_one hA u hu)
  refine ⟨_, ?_, (S.setBlk (blk' := { blk with cells := lay blk.cells off vs }) hβ hm (Nat.le_refl _) rfl (.inl rfl) hcur
    (arr' := (arr.toList.take (off + 0) ++ us ++ arr.toList.drop (off + 0 + us.length)).toArray) ?_ ?_ ?_).2⟩
  · have c1 : ¬ (us.length ≠ inf.size) := by omega
    simp only [Instr.storeAt, Instr.sureAddr, storeVar, Sem.run_bind, Sem.run_pure, Result.andThen_ok, run_sizeOf h1, hus, List.size_toArray]
    rw [if_neg c1]
    simp only [hst]
  · simp; omega
  · simp [lay]; omega
  · have e : ((arr.toList.take (off + 0) ++ us ++ arr.toList.drop (off + 0 + us.length)).toArray).toList.take (lay blk.cells off vs).length = cur.take off ++ us ++ cur.drop (off + us.length) := by
      have hll : (lay blk.cells off vs).length = blk.cells.length := by simp [lay]; omega
      rw [hll, ← hpre]
      simpa using take_lay arr.toList blk.cells.length off us (by omega) (by simpa using hsz)
    rw [e]
    exact lay_rep hcurA hA
end
end Go.Own
