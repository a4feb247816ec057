/-
  OWN WORK, generic over any program: regions that draw their order: whatever is drawn, the text's order has told the end.
  OWN WORK, generic over any program: steps, and regions in the text's order.
-/
import Derived.Test.YtkmhoebopfgpdaaOwnO
namespace Go.Own
open Go Go.RowKit
variable [GL]
set_option linter.unusedSectionVars false

section
variable {P : Program} {okA : Nat → Prop} {w0 : Base}

/-- what an operation yields that writes nothing -/
def AOut (P : Program) (s : ASt) (o : Oper) (v : AVal) : Prop :=
  (∃ fx args ats f cs as, o.op = .call ⟨.value fx, args, ats⟩ ∧ cloQ (s.eval fx) (args.toList.map s.eval) = some (f, cs) ∧ snapL s cs = some as ∧ Den P f as v ∧ (treeL cs = true ∨ v.flatT = true)) ∨
  (isEff o = false ∧ (∀ fx args ats, o.op ≠ .call ⟨.value fx, args, ats⟩) ∧ avalue P s o = some v) ∨
  (isEff o = true ∧ isFz s o = true ∧ afroz P s o = some v)
def AEff (P : Program) (o : Oper) (s s' : ASt) : Prop :=
  (isEff o = true ∧ aeff P s o = some s') ∨
  (∃ fx args ats f cs, o.op = .call ⟨.value fx, args, ats⟩ ∧ cloQ (s.eval fx) (args.toList.map s.eval) = some (f, cs) ∧ CallX P f cs s o.dst (fun x => x = s'))
def ASt.putD (s : ASt) (dst : Option Tmp) (v : AVal) : ASt := match dst with
  | some d => s.set d v
  | none => s
def okD (s : ASt) (dst : Option Tmp) : Prop := ∀ d, dst = some d → d < s.n
theorem putD_put {s : ASt} {dst : Option Tmp} {v : AVal} (h : okD s dst) : s.put dst v = some (s.putD dst v) := by
  cases dst with
  | none => rfl
  | some d => simp only [ASt.put, if_pos (h d rfl), ASt.putD]
theorem put_putD {s s' : ASt} {dst : Option Tmp} {v : AVal} (h : s.put dst v = some s') : okD s dst ∧ s' = s.putD dst v := by
  cases dst with
  | none => exact ⟨fun _ h => (nomatch h), (Option.some.inj h).symm⟩
  | some d =>
    simp only [ASt.put] at h
    split at h
    · rename_i hd
      exact ⟨fun _ e => Option.some.inj e ▸ hd, (Option.some.inj h).symm⟩
    · simp at h
theorem putD_n (s : ASt) (dst : Option Tmp) (v : AVal) : (s.putD dst v).n = s.n := by cases dst <;> rfl
theorem okD_putD {s : ASt} {dst dst' : Option Tmp} {v : AVal} : okD (s.putD dst' v) dst ↔ okD s dst := by unfold okD; rw [putD_n]
theorem putD_comm (s : ASt) {x y : Option Tmp} (v u : AVal) (h : ∀ d, x = some d → y ≠ some d) : (s.putD x v).putD y u = (s.putD y u).putD x v := by
  cases x with
  | none => rfl
  | some d =>
    cases y with
    | none => rfl
    | some e =>
      have hne : d ≠ e := fun he => h d rfl (he ▸ rfl)
      simp only [ASt.putD, ASt.set]
      congr 1
      funext t
      simp only [upd]
      by_cases h1 : t = d
      · have : t ≠ e := fun h => hne (h1 ▸ h)
        simp [h1, hne]
      · simp [h1]

def AMany (P : Program) (o : Oper) (s : ASt) (K : ASt → Prop) : Prop :=
  ∃ fx args ats f cs, o.op = .call ⟨.value fx, args, ats⟩ ∧ cloQ (s.eval fx) (args.toList.map s.eval) = some (f, cs) ∧ CallY P f cs s o.dst K
theorem astep_cases {nd : Bool} {o : Oper} {s : ASt} {K : Bool → ASt → Prop} (h : astep P nd o s K) :
    (∃ v s', AOut P s o v ∧ s.put o.dst v = some s' ∧ K false s') ∨ (∃ s', AEff P o s s' ∧ K true s') ∨ (nd = true ∧ AMany P o s (K true)) := by
  unfold astep at h
  split at h
  · rename_i fx args ats ho
    have key : ∀ {f : FuncId} {cs : List AVal}, cloQ (s.eval fx) (args.toList.map s.eval) = some (f, cs) → CallAny P nd f cs s o.dst K → ((∃ v s', AOut P s o v ∧ s.put o.dst v = some s' ∧ K false s') ∨ (∃ s', AEff P o s s' ∧ K true s') ∨ (nd = true ∧ AMany P o s (K true))) := by
      intro f cs hf h
      rcases h with ⟨as, h1, t, h2, h4, s', h5, h6⟩ | ⟨args', args'', t, q1, q2, q3, q4, q5, q6, s', q7, q8⟩ | ⟨hnd, hy⟩
      · exact .inl ⟨t, s', .inl ⟨fx, args, ats, f, cs, as, ho, hf, h1, h2, h4⟩, h5, h6⟩
      · exact .inr (.inl ⟨s', .inr ⟨fx, args, ats, f, cs, ho, hf, args', args'', t, q1, q2, q3, q4, q5, q6, s', q7, rfl⟩, q8⟩)
      · exact .inr (.inr ⟨hnd, fx, args, ats, f, cs, ho, hf, hy⟩)
    split at h
    · rename_i f cs hf
      have hf : cloQ (s.eval fx) (args.toList.map s.eval) = some (f, args.toList.map s.eval ++ cs) := by rw [hf]; rfl
      generalize args.toList.map s.eval ++ cs = cs at h hf
      exact key hf h
    · rename_i f cs hf
      have hf : cloQ (s.eval fx) (args.toList.map s.eval) = some (f, cs ++ args.toList.map s.eval) := by rw [hf]; rfl
      generalize cs ++ args.toList.map s.eval = cs at h hf
      exact key hf h
    · exact h.elim
  · rename_i hno
    have hno' : ∀ fx args ats, o.op ≠ .call ⟨.value fx, args, ats⟩ := fun fx args ats e => hno fx args ats e
    split at h
    · rename_i he
      split at h
      · rename_i hz
        split at h
        · split at h
          · exact .inl ⟨_, _, .inr (.inr ⟨he, hz, ‹_›⟩), ‹_›, h⟩
          · exact h.elim
        · exact h.elim
      · split at h
        · exact .inr (.inl ⟨_, .inl ⟨he, ‹_›⟩, h⟩)
        · exact h.elim
    · rename_i he
      split at h
      · split at h
        · exact .inl ⟨_, _, .inr (.inl ⟨by simpa using he, hno', ‹_›⟩), ‹_›, h⟩
        · exact h.elim
      · exact h.elim

theorem env_world {s : ASt} {m : Nat → Option Nat} {w w' : World} (hb : Below w.heap.size w w') : EnvLe (envOf okA w0.new s.heap s.gen m w) (envOf okA w0.new s.heap s.gen m w') := by
  refine ⟨fun b ⟨h1, h2, h3⟩ => ⟨⟨Nat.lt_of_lt_of_le h1 hb.size, h2, h3⟩, hb.block b h1⟩, Nat.le_refl _, fun β g r sz _ h => ⟨h, fun b k _ hr => ?_⟩⟩
  obtain ⟨arr, T, fz, h1, h2⟩ := hr
  exact ⟨arr, T, fz, (hb.block b (heap_lt h1)).trans h1, h2⟩
/-- cells of new memory that no name leads to -/
theorem froz_rep {s : ASt} {m : Nat → Option Nat} {a : Act} {w : World} (S : Sim okA w0 s m a w) {cells : List AVal} {us : List Value} {T : TypeId} (hA : RepA (envOf okA w0.new s.heap s.gen m w) cells us) :
    (envOf okA w0.new s.heap s.gen m (w.alloc (.cells us.toArray T))).ok w.heap.size ∧ RepC (envOf okA w0.new s.heap s.gen m (w.alloc (.cells us.toArray T))) cells w.heap.size 0 := by
  refine ⟨⟨by simp, .inr (.inl S.below.size), fun β blk h hm => ?_⟩, repC_of (repA_mono (env_world (below_alloc w _)) _ _ hA) fun j v hj => ?_⟩
  · obtain ⟨_, ⟨arr, T, h1, _⟩, _⟩ := (S.blks β blk h).real _ hm
    have := heap_lt h1
    omega
  · show (w.alloc (.cells us.toArray T)).cell? _ = _
    simp only [World.cell?, heap_alloc_new, Nat.zero_add]
    simpa using hj
/-- what is made and never written -/
theorem afroz_sound {s : ASt} {m : Nat → Option Nat} {a : Act} {w : World} (S : Sim okA w0 s m a w) {o : Oper} {v : AVal} (h : afroz P s o = some v) :
    ∃ u w', (execOp a.eval o).run P w = .ok (.value u) w' ∧ Below w.heap.size w w' ∧ RepV (envOf okA w0.new s.heap s.gen m w') v u := by
  obtain ⟨dst, op, type, pos, after, guard⟩ := o
  unfold afroz at h
  dsimp only at h
  split at h
  · rename_i t x
    split at h
    case h_2 => simp at h
    rename_i vs hvs
    simp only [Option.some.injEq] at h; subst h
    obtain ⟨us, hus, hA⟩ := cellsOf_rep hvs (S.eval x)
    obtain ⟨h1, h2⟩ := froz_rep (T := t) S hA
    refine ⟨.pointer (some ⟨w.heap.size, 0, none⟩), w.alloc (.cells us.toArray t), ?_, below_alloc w _, ⟨w.heap.size, 0, rfl, h1, h2⟩⟩
    simp [execOp, Instr.box, newVar, newRow, hus]
  · rename_i t len parts
    have hpl : (parts.map fun (i, x) => (i, a.eval x)).toList = parts.toList.map fun p => (p.1, a.eval p.2) := by simp
    unfold afrozB at h
    split at h
    case h_2 => simp at h
    rename_i sz ag by_ z e hti
    obtain ⟨inf, d', z', h1, h2, h3, h4, he⟩ := ti_spec hti
    simp only [TI.mk.injEq] at he
    have hd := kind_slice he.2.2.2.2.symm
    subst hd
    split at h
    case h_2 => simp at h
    rename_i ei hei
    obtain ⟨inf', d'', z'', g1, g2, g3, g4, rfl⟩ := ti_spec hei
    split at h
    case isFalse => simp at h
    rename_i hcond
    obtain ⟨c4, c5, c6⟩ := hcond
    have c4 : len * inf'.size ≤ 16777216 := c4
    have c5' : z''.cells.toList.length = inf'.size := by simpa using c5
    have c6' : inf'.size ≠ 0 := c6
    have hz0 : z''.cells.toList ≠ [] := fun e => by rw [e] at c5'; simp at c5'; exact c6 c5'.symm
    split at h
    case h_2 => simp at h
    rename_i cs hfill
    simp only [Option.some.injEq] at h; subst h
    have hmade : ((Array.range (len * inf'.size)).map (fun i => z''.cells[i % z''.cells.size]!)) = (List.replicate len z''.cells.toList).flatten.toArray := by
      apply Array.ext'
      have := made_take z''.cells.toList len hz0
      rw [List.toList_toArray, ← this, c5']
      simp [← c5', ← Array.getElem!_toList]
    have hA0 := repA_replicate (repA_absC (envOf okA w0.new s.heap s.gen m w) z''.cells.toList g4) len
    obtain ⟨us, hus, hA⟩ := fill_sound (repP_eval S parts.toList) hA0 hfill
    have hrun : (Instr.buildSlice t len (parts.map fun (i, x) => (i, a.eval x))).run P w = .ok (.slice (some ⟨w.heap.size, 0, none⟩) len len) (w.alloc (.cells us.toArray e)) := by
      have hus' : Instr.fill (fun i => some (i * inf'.size, inf'.size)) (List.replicate len z''.cells.toList).flatten.toArray (parts.toList.map fun p => (p.1, a.eval p.2)) = some us.toArray := hus
      have n1 : ¬ (16777216 < len * inf'.size) := by omega
      simp only [Instr.buildSlice, Sem.run_bind, run_underlying h2, Result.andThen_ok, run_sizeOf g1, hpl]
      rw [if_neg (by simpa using n1)]
      by_cases h0 : len * inf'.size = 0
      · have hz : (Array.range (len * inf'.size)).map (fun i => (#[] : Array Value)[i % (#[] : Array Value).size]!) = (List.replicate len z''.cells.toList).flatten.toArray := by
          rw [← hmade, h0]; simp
        rw [if_pos h0]
        simp only [Sem.run_bind, Sem.run_pure, Result.andThen_ok, hz, hus', newRow, run_newObj, World.alloc_eq]
      · rw [if_neg h0]
        simp only [Sem.run_bind, zeroValue, typeInfo, run_program, g1, g3, Sem.run_pure, Result.andThen_ok, hmade, hus', newRow, run_newObj, World.alloc_eq]
    obtain ⟨q1, q2⟩ := froz_rep (T := e) S hA
    have hlen : len ≤ maxI := by
      have : len ≤ len * inf'.size := Nat.le_mul_of_pos_right _ (by omega)
      simp only [maxI]; omega
    refine ⟨_, _, ?_, below_alloc w _, ⟨_, _, rfl, Nat.le_refl _, hlen, .inr ⟨w.heap.size, 0, rfl, q1, q2⟩⟩⟩
    simp only [execOp, Sem.run_bind, hrun, Result.andThen_ok, Sem.run_pure]
  · simp at h
theorem aout_wp {s : ASt} {m : Nat → Option Nat} {a : Act} {w : World} (S : Sim okA w0 s m a w) {o : Oper} {v : AVal} {s' : ASt} (h : AOut P s o v) (hp : s.put o.dst v = some s')
    {next : Act → World → Prop} {Q : Exit → Act → World → Prop} (hK : ∀ m' a' w', Sim okA w0 s' m' a' w' → next a' w') : o.wp P a w next Q := by
  unfold Oper.wp
  rcases h with ⟨fx, args, ats, f, cs, as, ho, hf, h1, h2, h4⟩ | ⟨_, _, hv⟩ | ⟨_, _, hv⟩
  · obtain ⟨vs, hrun, hc⟩ := call_exec S ho hf h1 h2 h4
    rw [hrun w]
    refine hc.mono ?_
    rintro e w' ⟨v, rfl, hr, hb⟩
    exact hK m _ _ ((S.world hb).putv hp hr)
  · obtain ⟨u, hu, hrun⟩ := avalue_sound S hv
    rw [hrun w fun b _ => rfl]
    exact hK m _ _ (S.putv hp hu)
  · obtain ⟨u, w', hrun, hb, hu⟩ := afroz_sound S hv
    rw [hrun]
    exact hK m _ _ ((S.world hb).putv hp hu)
theorem callY_exec {s : ASt} {m : Nat → Option Nat} {a : Act} {w : World} (S : Sim okA w0 s m a w) {o : Oper} {fx : Operand} {args : Array Operand} {ats : Array TypeId} {f : FuncId} {cs : List AVal} (ho : o.op = .call ⟨.value fx, args, ats⟩)
    (hfx : cloQ (s.eval fx) (args.toList.map s.eval) = some (f, cs)) (hd : ∃ fn, P.funcs[f]? = some fn ∧ fn.body.isSome = true ∧ (fn.name == "runtime.NumGoroutine") = false) :
    ∃ vs : List Value, (∀ w' : World, (execOp a.eval o).run P w' = .ok (.enter f vs.toArray) w') ∧ RepL (envOf okA w0.new s.heap s.gen m w) cs vs :=
  cloQ_exec S ho hfx hd
theorem aeff_wp {s : ASt} {m : Nat → Option Nat} {a : Act} {w : World} (S : Sim okA w0 s m a w) {o : Oper} {s' : ASt} (h : AEff P o s s')
    {next : Act → World → Prop} {Q : Exit → Act → World → Prop} (hK : ∀ m' a' w', Sim okA w0 s' m' a' w' → next a' w') : o.wp P a w next Q := by
  unfold Oper.wp
  rcases h with ⟨_, he⟩ | ⟨fx, args, ats, f, cs, ho, hf, xa, xa', t, q1, q2, q3, q4, q5, q6, s1, q7, rfl⟩
  · rcases aeff_sound S he with ⟨v, w', m', hr, hS⟩ | ⟨w', m', hr, hd, hS⟩
    · rw [hr]; exact hK m' _ _ hS
    · rw [hr]
      show next (a.put o.dst undef) w'
      rw [hd]
      exact hK m' _ _ hS
  · obtain ⟨vs, hrun, hrep⟩ := callY_exec S ho hf q1.1
    rw [hrun w]
    refine (callX_sound S hrep q1 q2 q3 q4 q5 q6).mono ?_
    rintro e w' ⟨v, m', rfl, hv, hS⟩
    exact hK m' _ _ (hS.putv q7 hv)
theorem astep_wp {nd : Bool} {s : ASt} {m : Nat → Option Nat} {a : Act} {w : World} (S : Sim okA w0 s m a w) {o : Oper} {K : Bool → ASt → Prop} (h : astep P nd o s K)
    {next : Act → World → Prop} {Q : Exit → Act → World → Prop} (hK : ∀ eff s' m' a' w', Sim okA w0 s' m' a' w' → K eff s' → next a' w') : o.wp P a w next Q := by
  rcases astep_cases h with ⟨v, s', h1, h2, h3⟩ | ⟨s', h1, h3⟩ | ⟨_, h1⟩
  · exact aout_wp S h1 h2 fun m' a' w' S' => hK false s' m' a' w' S' h3
  · exact aeff_wp S h1 fun m' a' w' S' => hK true s' m' a' w' S' h3
  · obtain ⟨fx, args, ats, f, cs, ho, hf, ι, p, xa, xa', t, q1, q2, q3, q5, q4⟩ := h1
    obtain ⟨vs, hrun, hrep⟩ := callY_exec S ho hf q1.1
    unfold Oper.wp
    rw [hrun w]
    refine (callY_sound S hrep q1 q2 q3 (fun i hi => (q4 i hi).1) q5 (fun i hi => (q4 i hi).2.1)).mono ?_
    rintro e w' ⟨i, hi, v, m', rfl, hv, hS⟩
    obtain ⟨_, _, s', q7, q8⟩ := q4 i hi
    exact hK true s' m' _ _ (hS.putv q7 hv) q8

theorem yielded_of {s : ASt} {m : Nat → Option Nat} {a : Act} {w : World} (S : Sim okA w0 s m a w) {ops : Array Oper} {j d : Nat} (hd : (ops[j]?).bind (·.dst) = some d) (hn : d < s.n) {x : Bool}
    (hx : s.tmp d = .flat (.bool x)) : yielded ops a.tmps j = some x ∧ a.tmps.getD d undef = .bool x := by
  have h1 := S.tmps d
  rw [hx] at h1
  have hlt : d < a.tmps.size := by rw [S.size]; exact hn
  have h2 : a.tmps[d]? = some (.bool x) := by
    rw [Array.getElem?_eq_getElem hlt]
    have := h1.2
    simp only [Array.getD_eq_getD_getElem?, Array.getElem?_eq_getElem hlt, Option.getD_some] at this
    rw [this]
  exact ⟨by simp [yielded, hd, h2], h1.2⟩


theorem guard_cases {s : ASt} {m : Nat → Option Nat} {a : Act} {w : World} (S : Sim okA w0 s m a w) {ops : Array Oper} {o : Oper} {j d : Nat} {want : Bool} (hg : o.guard = some (j, want)) (hd : (ops[j]?).bind (·.dst) = some d) (hn : d < s.n)
    {nd : Bool} {K : Bool → ASt → Prop} {Ks : ASt → Prop} (h : guardP P nd o K Ks s d want) :
    (Region.wanted o (yielded ops a.tmps) = true ∧ ∃ s', Sim okA w0 s' m a w ∧ astep P nd o s' K) ∨ (Region.wanted o (yielded ops a.tmps) = false ∧ ∃ s', Sim okA w0 s' m a w ∧ skipP s' o.dst Ks) := by
  unfold guardP at h
  split at h
  · rename_i x hx
    obtain ⟨hy, hv⟩ := yielded_of S hd hn hx
    have hw : Region.wanted o (yielded ops a.tmps) = (x == want) := by
      simp only [Region.wanted, hg, hy]
      cases x <;> cases want <;> rfl
    by_cases e : x = want
    · refine .inl ⟨by rw [hw, e]; simp, _, S.refine ?_, h.1 e⟩
      rw [hv, e]; exact ⟨rfl, rfl⟩
    · have e2 : x = !want := by cases x <;> cases want <;> simp_all
      refine .inr ⟨by rw [hw, e2]; cases want <;> rfl, _, S.refine ?_, h.2 e2⟩
      rw [hv, e2]; exact ⟨rfl, rfl⟩
  · rename_i hx
    have h1 := S.tmps d
    rw [hx] at h1
    obtain ⟨vs, e1, e2⟩ := h1
    simp only [RepL] at e2
    subst e2
    have hlt : d < a.tmps.size := by rw [S.size]; exact hn
    have h2 : a.tmps[d]? = some (.tuple #[]) := by
      rw [Array.getElem?_eq_getElem hlt]
      simp only [Array.getD_eq_getD_getElem?, Array.getElem?_eq_getElem hlt, Option.getD_some] at e1
      rw [e1]
    refine .inr ⟨?_, s, S, h⟩
    have hy : yielded ops a.tmps j = none := by simp [yielded, hd, h2]
    simp only [Region.wanted, hg, hy]
    rfl
  · exact h.elim

theorem aops_wp {ops : Array Oper} {K : ASt → Prop} {Q : Exit → Act → World → Prop} (hK : ∀ s' m' a' w', Sim okA w0 s' m' a' w' → K s' → Q .normal a' w') :
    ∀ (l : List Oper) (k : Nat) (s : ASt) (m : Nat → Option Nat) (a : Act) (w : World), (∀ j, l[j]? = ops[k + j]?) → Sim okA w0 s m a w → aops P none ops K l s → wpOps P ops Q (List.range' k l.length) a w
  | [], k, s, m, a, w, _, S, h => hK s m a w S h
  | o :: l, k, s, m, a, w, hl, S, h => by
    have h0 : ops[k]? = some o := by simpa using (hl 0).symm
    have hl' : ∀ j, l[j]? = ops[k + 1 + j]? := fun j => by have := hl (j + 1); simpa [Nat.add_assoc, Nat.add_comm 1 j] using this
    simp only [List.length_cons, List.range'_succ, wpOps, h0]
    simp only [aops] at h
    split at h
    · rename_i hg
      have : Region.wanted o (yielded ops a.tmps) = true := by simp [Region.wanted, hg]
      rw [if_pos this]
      exact .inl (astep_wp S h fun eff s' m' a' w' S' h' => aops_wp hK l (k + 1) s' m' a' w' hl' S' h'.2)
    · rename_i j want hg
      split at h
      case h_2 => exact h.elim
      rename_i d hd
      rcases guard_cases S hg hd h.1 h.2 with ⟨hw, s1, S1, h1⟩ | ⟨hw, s1, S1, h1⟩
      · rw [if_pos hw]
        exact .inl (astep_wp S1 h1 fun eff s' m' a' w' S' h' => aops_wp hK l (k + 1) s' m' a' w' hl' S' h'.2)
      · rw [if_neg (by simp [hw])]
        unfold skipP at h1
        split at h1
        · rename_i s2 hp
          exact aops_wp hK l (k + 1) s2 m _ w hl' (S1.putv (v := undef) hp ⟨[], rfl, rfl⟩) h1
        · exact h1.elim

theorem live_tmp (s : ASt) (τ : Nat → AVal) (v : AVal) : live { s with tmp := τ } v = live s v := by cases v <;> rfl
theorem aload_tmp (s : ASt) (τ : Nat → AVal) (t : TypeId) (v : AVal) : aload P { s with tmp := τ } t v = aload P s t v := by cases v <;> rfl
theorem asgn_tmp {s : ASt} {τ : Nat → AVal} {d : Option Tmp} {x : Operand} (h : ASt.eval { s with tmp := τ } x = s.eval x) : asgn { s with tmp := τ } d x = asgn s d x := by
  unfold asgn
  split
  · rfl
  · exact h
theorem nilA_tmp (s : ASt) (τ : Nat → AVal) (t : TypeId) (v : AVal) : nilA P { s with tmp := τ } t v = nilA P s t v := by unfold nilA; simp only [live_tmp]
theorem szOk_tmp (s : ASt) (τ : Nat → AVal) (t : TypeId) (v : AVal) : szOk P { s with tmp := τ } t v = szOk P s t v := by cases v <;> rfl
theorem snap_tmp (τ : Nat → AVal) : ∀ (k : Nat) (s : ASt) (v : AVal), snap k { s with tmp := τ } v = snap k s v
  | 0, _, _ => rfl
  | k + 1, s, v => by
    have e : snap k { s with tmp := τ } = snap k s := funext fun v => snap_tmp τ k s v
    cases v <;> simp only [snap, blkOf, e]
theorem snapL_tmp (s : ASt) (τ : Nat → AVal) : ∀ l, snapL { s with tmp := τ } l = snapL s l
  | [] => rfl
  | a :: r => by simp only [snapL, snap_tmp, snapL_tmp s τ r]
theorem optI_tmp {s : ASt} {τ : Nat → AVal} {d : Nat} {x : Option Operand} (h : ∀ y, x = some y → ASt.eval { s with tmp := τ } y = s.eval y) : optI { s with tmp := τ } d x = optI s d x := by
  cases x with
  | none => rfl
  | some y => simp only [optI, h y rfl]
theorem abuild_tmp {s : ASt} {τ : Nat → AVal} {t : TypeId} {parts : List (Nat × Operand)} (h : ∀ p ∈ parts, ASt.eval { s with tmp := τ } p.2 = s.eval p.2) : abuild P { s with tmp := τ } t parts = abuild P s t parts := by
  have e : (parts.map fun p => (p.1, ASt.eval { s with tmp := τ } p.2)) = parts.map fun p => (p.1, s.eval p.2) := List.map_congr_left fun p hp => by rw [h p hp]
  unfold abuild
  rw [e]
theorem asliceV_tmp {s : ASt} {τ : Nat → AVal} {t : TypeId} {v : AVal} {lo hi mx : Option Operand} (h1 : ∀ y, lo = some y → ASt.eval { s with tmp := τ } y = s.eval y) (h2 : ∀ y, hi = some y → ASt.eval { s with tmp := τ } y = s.eval y)
    (h3 : ∀ y, mx = some y → ASt.eval { s with tmp := τ } y = s.eval y) : asliceV P { s with tmp := τ } t v lo hi mx = asliceV P s t v lo hi mx := by
  unfold asliceV
  cases mx with
  | none => simp only [optI_tmp h1, optI_tmp h2]
  | some m => simp only [optI_tmp h1, optI_tmp h2, optI_tmp (x := some m) h3]
theorem mapEval_tmp {s : ASt} {τ : Nat → AVal} {l : List Operand} (h : ∀ y ∈ l, ASt.eval { s with tmp := τ } y = s.eval y) : l.map (ASt.eval { s with tmp := τ }) = l.map s.eval := List.map_congr_left h
theorem avalue_congr {s : ASt} {τ : Nat → AVal} (o : Oper) (h : ∀ x ∈ o.op.operands, ASt.eval { s with tmp := τ } x = s.eval x) : avalue P { s with tmp := τ } o = avalue P s o := by
  obtain ⟨dst, op, type, pos, after, guard⟩ := o
  cases op <;> simp only [Op.operands] at h
  case call c =>
    obtain ⟨callee, args, ats⟩ := c
    cases callee with
    | builtin b =>
      have e : args.toList.map (ASt.eval { s with tmp := τ }) = args.toList.map s.eval := mapEval_tmp fun y hy => h y (by simpa [Call.operands] using hy)
      have e1 : ∀ x, args.toList = [x] → ASt.eval { s with tmp := τ } x = s.eval x := fun x hx => h x (by simp [Call.operands, ← Array.mem_toList_iff, hx])
      cases b <;> simp only [avalue, e]
      all_goals
        first
        | rfl
        | (split
           · rename_i x hx
             first | (rw [e1 x hx, live_tmp]; done) | (rw [e1 x hx]; done)
           · rfl)
    | value f => simp only [avalue]
    | invoke r m => simp only [avalue]
  case makeFunc fn first captured =>
    cases fn <;> try (simp only [avalue]; done)
    obtain ⟨l⟩ := first
    cases l with
    | nil =>
      simp only [avalue]
      rw [mapEval_tmp fun y hy => h y (by simpa using hy)]
    | cons x xs =>
      obtain ⟨c⟩ := captured
      cases c with
      | nil =>
        simp only [avalue]
        rw [mapEval_tmp fun y hy => h y (by simpa using hy)]
      | cons y ys => simp only [avalue]
  case build t ps => simp only [avalue]; rw [abuild_tmp fun p hp => h p.2 (by simpa using ⟨p.1, by simpa using hp⟩)]
  case slice t x lo hi mx =>
    have hx := h x (by simp)
    have h1 : ∀ y, lo = some y → ASt.eval { s with tmp := τ } y = s.eval y := fun y e => h y (by subst e; simp)
    have h2 : ∀ y, hi = some y → ASt.eval { s with tmp := τ } y = s.eval y := fun y e => h y (by subst e; simp)
    have h3 : ∀ y, mx = some y → ASt.eval { s with tmp := τ } y = s.eval y := fun y e => h y (by subst e; simp)
    have e1 : lo.toList.map (ASt.eval { s with tmp := τ }) = lo.toList.map s.eval := mapEval_tmp fun y hy => h1 y (by simpa using hy)
    have e2 : hi.toList.map (ASt.eval { s with tmp := τ }) = hi.toList.map s.eval := mapEval_tmp fun y hy => h2 y (by simpa using hy)
    simp only [avalue, hx, e1, e2, live_tmp, szOk_tmp, asliceV_tmp h1 h2 h3]
  case assign x => simp only [avalue]; rw [asgn_tmp (h x (by simp))]
  all_goals (first | (simp only [avalue]; done) | (simp_all [avalue, live_tmp, aload_tmp, nilA_tmp]; done))

theorem set_same {s : ASt} {d : Nat} {v : AVal} (h : s.tmp d = v) : s.set d v = s := by
  have : upd s.tmp d v = s.tmp := by
    funext t
    rw [upd]
    split
    · rename_i e; rw [e, h]
    · rfl
  unfold ASt.set
  rw [this]

end

section
variable {P : Program} {okA : Nat → Prop} {w0 : Base}

/-! ### what an operation looks at -/
def AYields (P : Program) (ops : Array Oper) (s : ASt) (o : Oper) (v : AVal) : Prop :=
  match o.guard with
  | none => AOut P s o v
  | some (j, want) => ∃ d, (ops[j]?).bind (·.dst) = some d ∧ d < s.n ∧ ((s.tmp d = .flat (.bool want) ∧ AOut P s o v) ∨ ((s.tmp d = .flat (.bool !want) ∨ s.tmp d = .tup []) ∧ v = .tup []))
def Skip (ops : Array Oper) (s : ASt) (o : Oper) (v : AVal) : Prop :=
  ∃ j want d, o.guard = some (j, want) ∧ (ops[j]?).bind (·.dst) = some d ∧ d < s.n ∧ (s.tmp d = .flat (.bool !want) ∨ s.tmp d = .tup []) ∧ v = .tup []
def GOn (ops : Array Oper) (s : ASt) (o : Oper) : Prop :=
  o.guard = none ∨ ∃ j want d, o.guard = some (j, want) ∧ (ops[j]?).bind (·.dst) = some d ∧ d < s.n ∧ s.tmp d = .flat (.bool want)
theorem skip_yields {ops : Array Oper} {s : ASt} {o : Oper} {v : AVal} (h : Skip ops s o v) : AYields P ops s o v := by
  obtain ⟨j, want, d, hg, hd, hn, ht, hv⟩ := h
  unfold AYields
  rw [hg]
  exact ⟨d, hd, hn, .inr ⟨ht, hv⟩⟩
theorem eval_agree {ops : Array Oper} {o : Oper} {s : ASt} {τ : Nat → AVal} (h : ∀ t ∈ o.looksAt ops, τ t = s.tmp t) : ∀ x ∈ o.op.operands, ASt.eval { s with tmp := τ } x = s.eval x := by
  intro x hx
  cases x with
  | tmp t => exact h t (List.mem_append_left _ (List.mem_filterMap.2 ⟨.tmp t, by simpa using hx, by simp⟩))
  | const v => rfl
  | global g => rfl
  | func f => rfl
theorem guard_looks {ops : Array Oper} {o : Oper} {j d : Nat} {want : Bool} (hg : o.guard = some (j, want)) (hd : (ops[j]?).bind (·.dst) = some d) : d ∈ o.looksAt ops := by
  unfold Oper.looksAt
  rw [hg]
  simp [hd]
theorem afroz_congr {s : ASt} {τ : Nat → AVal} {o : Oper} (hev : ∀ x ∈ o.op.operands, ASt.eval { s with tmp := τ } x = s.eval x) : afroz P { s with tmp := τ } o = afroz P s o := by
  obtain ⟨dst, op, type, pos, after, guard⟩ := o
  unfold afroz
  dsimp only at hev ⊢
  split
  · rename_i t x
    rw [hev x (by simp [Op.operands])]
  · rename_i t len parts
    have e : (parts.toList.map fun p => (p.1, ASt.eval { s with tmp := τ } p.2)) = parts.toList.map fun p => (p.1, s.eval p.2) := List.map_congr_left fun p hp => by rw [hev p.2 (by simp [Op.operands]; exact ⟨p.1, by simpa using hp⟩)]
    unfold afrozB
    rw [e]
  · rfl
theorem afroz_heap {s : ASt} {o : Oper} (hp : Nat → Option Blk) (g : Nat) : afroz P { s with heap := hp, gen := g } o = afroz P s o := by
  have ev : ASt.eval { s with heap := hp, gen := g } = s.eval := funext fun x => by cases x <;> rfl
  unfold afroz afrozB
  simp only [ev]
theorem aout_tmp {s : ASt} {τ : Nat → AVal} {o : Oper} {v : AVal} (hev : ∀ x ∈ o.op.operands, ASt.eval { s with tmp := τ } x = s.eval x) : AOut P { s with tmp := τ } o v ↔ AOut P s o v := by
  unfold AOut
  rw [avalue_congr o hev, afroz_congr hev]
  refine or_congr ?_ Iff.rfl
  refine exists_congr fun fx => exists_congr fun args => exists_congr fun ats => exists_congr fun f => exists_congr fun cs => exists_congr fun as => and_congr_right fun ho => ?_
  have e1 : ASt.eval { s with tmp := τ } fx = s.eval fx := hev fx (by rw [ho]; simp [Op.operands, Call.operands])
  have e2 : args.toList.map (ASt.eval { s with tmp := τ }) = args.toList.map s.eval := mapEval_tmp fun y hy => hev y (by rw [ho]; simp [Op.operands, Call.operands]; exact .inr (by simpa using hy))
  rw [e1, e2, snapL_tmp]
theorem ayields_tmp {ops : Array Oper} {s : ASt} {τ : Nat → AVal} {o : Oper} {v : AVal} (h : ∀ t ∈ o.looksAt ops, τ t = s.tmp t) (hy : AYields P ops s o v) : AYields P ops { s with tmp := τ } o v := by
  unfold AYields at *
  split at hy
  · exact (aout_tmp (eval_agree h)).2 hy
  · rename_i j want hg
    obtain ⟨d, hd, hn, hy⟩ := hy
    have e : τ d = s.tmp d := h d (guard_looks hg hd)
    exact ⟨d, hd, hn, by simpa only [e, aout_tmp (eval_agree h)] using hy⟩
theorem avalue_heapless {s : ASt} {o : Oper} (h : heapless o.op = true) (hp : Nat → Option Blk) (g : Nat) : avalue P { s with heap := hp, gen := g } o = avalue P s o := by
  obtain ⟨dst, op, type, pos, after, guard⟩ := o
  have ev : ∀ x, ASt.eval { s with heap := hp, gen := g } x = s.eval x := fun x => by cases x <;> rfl
  cases op <;> simp only [heapless] at h <;> first | (cases h; done) | skip
  case binOp op t x y t2 =>
    have hq : nilQ op y = false := by simpa using h
    simp only [avalue, ev, hq, Bool.false_eq_true, if_false]
  case assign x =>
    simp only [avalue, asgn]
    rfl
  all_goals first | rfl | (simp only [avalue, ev]; done) | (simp only [avalue, abuild, ev])
theorem ayields_heapless {ops : Array Oper} {s : ASt} {o : Oper} {v : AVal} (h : heapless o.op = true) (hp : Nat → Option Blk) (g : Nat) (hy : AYields P ops s o v) : AYields P ops { s with heap := hp, gen := g } o v := by
  have key : AOut P s o v → AOut P { s with heap := hp, gen := g } o v := fun hy => by
    rcases hy with ⟨fx, args, ats, f, cs, as, ho, _⟩ | ⟨h1, h2, h3⟩ | ⟨h1, h2, h3⟩
    · rw [ho] at h; cases h
    · exact .inr (.inl ⟨h1, h2, by rw [avalue_heapless h]; exact h3⟩)
    · exact .inr (.inr ⟨h1, h2, by rw [afroz_heap]; exact h3⟩)
  unfold AYields at *
  split at hy
  · exact key hy
  · obtain ⟨d, hd, hn, hy⟩ := hy
    exact ⟨d, hd, hn, hy.imp (fun q => ⟨q.1, key q.2⟩) id⟩

/-! ### a heap that has grown -/
def HExt (s : ASt) (hp : Nat → Option Blk) : Prop := ∀ β blk, s.heap β = some blk → hp β = some blk
theorem blkOf_ext {s : ASt} {hp : Nat → Option Blk} {g β γ : Nat} {blk : Blk} (hx : HExt s hp) (h : blkOf s β γ = some blk) : blkOf { s with heap := hp, gen := g } β γ = some blk := by
  obtain ⟨h1, h2⟩ := blkOf_spec h
  have := hx β blk h1
  simp only [blkOf, this, h2, if_true]
theorem live_ext {s : ASt} {hp : Nat → Option Blk} {g : Nat} (hx : HExt s hp) {v : AVal} (h : live s v = true) : live { s with heap := hp, gen := g } v = true := by
  cases v <;> simp only [live] at h ⊢
  all_goals
    obtain ⟨blk, hb⟩ := Option.isSome_iff_exists.1 h
    rw [blkOf_ext hx hb]; rfl
theorem nilA_ext {P : Program} {s : ASt} {hp : Nat → Option Blk} {g : Nat} (hx : HExt s hp) {t : TypeId} {v r : AVal} (h : nilA P s t v = some r) : nilA P { s with heap := hp, gen := g } t v = some r := by
  unfold nilA at h ⊢
  split at h
  · split at h
    · exact h
    · exact h
    · exact h
    · split at h
      · rename_i hc
        rw [if_pos ⟨hc.1, live_ext hx hc.2⟩]
        exact h
      · simp at h
    · simp at h
  · simp at h
theorem snap_ext {s : ASt} {hp : Nat → Option Blk} {g : Nat} (hx : HExt s hp) : ∀ (k : Nat) (v t : AVal), snap k s v = some t → snap k { s with heap := hp, gen := g } v = some t
  | 0, v, t, h => by simp [snap] at h
  | k + 1, v, t, h => by
    have M : ∀ {l r : List AVal}, l.mapM (snap k s) = some r → l.mapM (snap k { s with heap := hp, gen := g }) = some r := by
      intro l
      induction l with
      | nil => intro r h; exact h
      | cons x l ih =>
        intro r h
        simp only [List.mapM_cons, Option.bind_eq_bind, Option.bind_eq_some_iff, Option.pure_def, Option.some.injEq] at h ⊢
        obtain ⟨y, hy, ys, hys, rfl⟩ := h
        exact ⟨y, snap_ext hx k x y hy, ys, ih hys, rfl⟩
    cases v with
    | own β γ off n =>
      simp only [snap] at h ⊢
      split at h
      case h_2 => simp at h
      rename_i blk hb
      rw [blkOf_ext hx hb]
      simp only
      split at h
      case isFalse => simp at h
      rename_i hl
      rw [if_pos hl]
      split at h
      · rename_i ht; rw [if_pos ht]; exact h
      · rename_i ht
        rw [if_neg ht]
        split at h
        case h_2 => simp at h
        rename_i l hm
        rw [M hm]; exact h
    | ptr β γ off =>
      simp only [snap] at h ⊢
      split at h
      case h_2 => simp at h
      rename_i blk hb
      rw [blkOf_ext hx hb]
      simp only
      split at h
      · rename_i ht; rw [if_pos ht]; exact h
      · rename_i ht
        rw [if_neg ht]
        split at h
        case h_2 => simp at h
        rename_i l hm
        rw [M hm]; exact h
    | agg cs =>
      simp only [snap] at h ⊢
      split at h
      case h_2 => simp at h
      rename_i l hm
      rw [M hm]; exact h
    | tup cs =>
      simp only [snap] at h ⊢
      split at h
      case h_2 => simp at h
      rename_i l hm
      rw [M hm]; exact h
    | clo f cs =>
      simp only [snap] at h ⊢
      split at h
      case h_2 => simp at h
      rename_i l hm
      rw [M hm]; exact h
    | bnd f cs =>
      simp only [snap] at h ⊢
      split at h
      case h_2 => simp at h
      rename_i l hm
      rw [M hm]; exact h
    | _ => simpa only [snap] using h
theorem snapL_ext {s : ASt} {hp : Nat → Option Blk} {g : Nat} (hx : HExt s hp) : ∀ {l r : List AVal}, snapL s l = some r → snapL { s with heap := hp, gen := g } l = some r
  | [], r, h => h
  | x :: l, r, h => by
    simp only [snapL] at h ⊢
    split at h
    · rename_i y ys hy hys
      rw [snap_ext hx 6 x y hy, snapL_ext hx hys]; exact h
    · simp at h
theorem aload_ext {s : ASt} {hp : Nat → Option Blk} {g : Nat} (hx : HExt s hp) {t : TypeId} {v r : AVal} (h : aload P s t v = some r) : aload P { s with heap := hp, gen := g } t v = some r := by
  cases v <;> simp only [aload] at h ⊢ <;> try exact h
  split at h
  · rename_i i blk hi hb
    rw [blkOf_ext hx hb, hi]
    exact h
  · simp at h
theorem szOk_ext {s : ASt} {hp : Nat → Option Blk} {g : Nat} (hx : HExt s hp) {t : TypeId} {v : AVal} (hl : live s v = true) (h : szOk P s t v = true) : szOk P { s with heap := hp, gen := g } t v = true := by
  cases v with
  | own β γ off n =>
    obtain ⟨blk, hb⟩ := Option.isSome_iff_exists.1 (show (blkOf s β γ).isSome = true from hl)
    simp only [szOk] at h ⊢
    rw [hb] at h
    rw [blkOf_ext hx hb]
    exact h
  | _ => rfl
theorem avalue_ext {s : ASt} {hp : Nat → Option Blk} {g : Nat} (hx : HExt s hp) {o : Oper} {v : AVal} (h : avalue P s o = some v) : avalue P { s with heap := hp, gen := g } o = some v := by
  by_cases hh : heapless o.op = true
  · rw [avalue_heapless hh]; exact h
  obtain ⟨dst, op, type, pos, after, guard⟩ := o
  have ev : ∀ x, ASt.eval { s with heap := hp, gen := g } x = s.eval x := fun x => by cases x <;> rfl
  have evf : ASt.eval { s with heap := hp, gen := g } = s.eval := funext ev
  have opt : ∀ (d : Nat) (x : Option Operand), optI { s with heap := hp, gen := g } d x = optI s d x := fun d x => by cases x <;> simp only [optI, ev]
  have slc : ∀ (t : TypeId) (x : AVal) (lo hi mx : Option Operand), asliceV P { s with heap := hp, gen := g } t x lo hi mx = asliceV P s t x lo hi mx := fun t x lo hi mx => by
    unfold asliceV
    simp only [opt]
  cases op <;> simp only [heapless, not_true_eq_false] at hh
  case binOp op t x y t2 =>
    have hq : nilQ op y = true := by simpa using hh
    simp only [avalue, ev, hq, if_true] at h ⊢
    exact nilA_ext hx h
  case call c =>
    obtain ⟨callee, args, ats⟩ := c
    cases callee with
    | builtin b =>
      cases b <;> simp only [avalue, evf] at h ⊢ <;> try exact h
      split at h
      · rename_i x hx'
        split at h
        · rename_i hl
          rw [if_pos (live_ext hx hl)]
          exact h
        · simp at h
      · simp at h
    | value f => simp only [avalue] at h; simp at h
    | invoke r m => simp only [avalue] at h; simp at h
  case makeFunc fn first captured =>
    cases fn <;> try (simp only [avalue] at h; simp at h; done)
    obtain ⟨l⟩ := first
    cases l with
    | nil =>
      simp only [avalue, evf] at h ⊢
      exact h
    | cons x xs =>
      obtain ⟨c⟩ := captured
      cases c with
      | nil =>
        simp only [avalue, evf] at h ⊢
        exact h
      | cons y ys => simp only [avalue] at h; simp at h
  case fieldAddr t x f =>
    simp only [avalue, ev] at h ⊢
    split at h
    · rename_i hl
      rw [if_pos (live_ext hx hl)]; exact h
    · simp at h
  case indexAddr t x ix =>
    simp only [avalue, ev] at h ⊢
    split at h
    · rename_i hl
      rw [if_pos (live_ext hx hl)]; exact h
    · simp at h
  case load t x =>
    simp only [avalue, ev] at h ⊢
    exact aload_ext hx h
  case nilCheck x =>
    simp only [avalue, ev] at h ⊢
    split at h
    · rename_i β γ off e
      split at h
      · rename_i hl
        rw [if_pos (live_ext hx hl)]; exact h
      · simp at h
    · exact h
    · exact h
    · simp at h
  case slice t x lo hi mx =>
    simp only [avalue, evf, slc] at h ⊢
    split at h
    · exact h
    · rename_i hnf
      split at h
      · rename_i hl
        rw [if_pos (live_ext hx hl)]
        split at h
        · rename_i hs
          rw [if_pos (szOk_ext hx hl hs)]; exact h
        · simp at h
      · simp at h
  all_goals first | (simp only [avalue, ev] at h ⊢; exact h) | (simp only [avalue] at h ⊢; exact h)
theorem ayields_ext {ops : Array Oper} {s : ASt} {o : Oper} {v : AVal} {hp : Nat → Option Blk} {g : Nat} (hx : HExt s hp) (hy : AYields P ops s o v) : AYields P ops { s with heap := hp, gen := g } o v := by
  have key : AOut P s o v → AOut P { s with heap := hp, gen := g } o v := fun hy => by
    rcases hy with ⟨fx, args, ats, f, cs, as, ho, hf, h1, h2⟩ | ⟨h1, h2, h3⟩ | ⟨h1, h2, h3⟩
    · have evf : ASt.eval { s with heap := hp, gen := g } = s.eval := funext fun x => by cases x <;> rfl
      exact .inl ⟨fx, args, ats, f, cs, as, ho, by rw [evf]; exact hf, snapL_ext hx h1, h2⟩
    · exact .inr (.inl ⟨h1, h2, avalue_ext hx h3⟩)
    · exact .inr (.inr ⟨h1, h2, by rw [afroz_heap]; exact h3⟩)
  unfold AYields at *
  split at hy
  · exact key hy
  · obtain ⟨d, hd, hn, hy⟩ := hy
    exact ⟨d, hd, hn, hy.imp (fun q => ⟨q.1, key q.2⟩) id⟩

theorem ayields_noh {ops : Array Oper} {s : ASt} {o : Oper} {v : AVal} (h : NoH P s o) (hp : Nat → Option Blk) (g : Nat) (hy : AYields P ops s o v) : AYields P ops { s with heap := hp, gen := g } o v := by
  obtain ⟨n1, n2, n3⟩ := h
  have key : AOut P s o v → AOut P { s with heap := hp, gen := g } o v := fun hy => by
    rcases hy with ⟨fx, args, ats, f, cs, as, ho, _⟩ | ⟨h1, h2, h3⟩ | ⟨h1, _⟩
    · rw [ho] at n2; exact n2.elim
    · rw [← n3] at h3
      exact .inr (.inl ⟨h1, h2, avalue_ext (s := { s with heap := fun _ => none }) (hp := hp) (g := g) (fun β blk hb => by simp at hb) h3⟩)
    · rw [n1] at h1; simp at h1
  unfold AYields at *
  split at hy
  · exact key hy
  · obtain ⟨d, hd, hn, hy⟩ := hy
    exact ⟨d, hd, hn, hy.imp (fun q => ⟨q.1, key q.2⟩) id⟩

/-! ### an operation that writes, over other temporaries -/
def putT (dst : Option Tmp) (τ : Nat → AVal) (s' : ASt) : Nat → AVal := match dst with
  | some d => upd τ d (s'.tmp d)
  | none => τ
theorem new_tmp {s s' : ASt} {d sz : Nat} {cells : List AVal} {v : AVal} {τ : Nat → AVal} (h : s.new d sz cells v = some s') : ASt.new { s with tmp := τ } d sz cells v = some { s' with tmp := putT (some d) τ s' } := by
  obtain ⟨h1, rfl⟩ := new_eq h
  simp [ASt.new, h1, putT, upd]
theorem aeff_tmp {s s' : ASt} {τ : Nat → AVal} {o : Oper} (hev : ∀ x ∈ o.op.operands, ASt.eval { s with tmp := τ } x = s.eval x) (h : aeff P s o = some s') : aeff P { s with tmp := τ } o = some { s' with tmp := putT o.dst τ s' } := by
  obtain ⟨dst, op, type, pos, after, guard⟩ := o
  unfold aeff at h ⊢
  dsimp only at h hev ⊢
  split at h
  · rename_i t d
    simp only [aalloc] at h ⊢
    split at h
    · exact new_tmp h
    · simp at h
  · rename_i t x d
    have e := hev x (by simp [Op.operands])
    simp only [abox, e] at h ⊢
    split at h
    · split at h
      · exact new_tmp h
      · simp at h
    · simp at h
  · rename_i t l c d
    have e1 := hev l (by simp [Op.operands])
    have e2 := hev c (by simp [Op.operands])
    simp only [e1, e2]
    unfold amakeSlice at h ⊢
    split at h
    · split at h
      · split at h
        · split at h
          · rename_i hc; rw [if_pos hc]; exact new_tmp h
          · simp at h
        · simp at h
      · simp at h
    · simp at h
  · rename_i t len parts d
    have e : (parts.toList.map fun p => (p.1, ASt.eval { s with tmp := τ } p.2)) = parts.toList.map fun p => (p.1, s.eval p.2) := List.map_congr_left fun p hp => by rw [hev p.2 (by simp [Op.operands]; exact ⟨p.1, by simpa using hp⟩)]
    unfold abuildSlice at h ⊢
    rw [e]
    split at h
    · split at h
      · split at h
        · rename_i hc
          rw [if_pos hc]
          split at h
          · exact new_tmp h
          · simp at h
        · simp at h
      · simp at h
    · simp at h
  · rename_i t x v
    have e1 := hev x (by simp [Op.operands])
    have e2 := hev v (by simp [Op.operands])
    simp only [e1, e2]
    unfold astore at h ⊢
    split at h
    · split at h
      · split at h
        · rename_i hl
          rw [if_pos hl]
          split at h
          · rename_i β γ off hx
            split at h
            · rename_i blk hb
              have hb' : blkOf { s with tmp := τ } β γ = some blk := hb
              rw [hb']
              simp only
              split at h
              · rename_i hle
                rw [if_pos hle]
                simp only [Option.some.injEq] at h ⊢
                subst h
                rfl
              · simp at h
            · simp at h
          · simp at h
        · simp at h
      · simp at h
    · simp at h
  · rename_i args ats d
    split at h
    case h_2 => simp at h
    rename_i x y t u hx hu
    have e1 := hev x (by simp [Op.operands, Call.operands, ← Array.mem_toList_iff, hx])
    have e2 := hev y (by simp [Op.operands, Call.operands, ← Array.mem_toList_iff, hx])
    simp only [e1, e2]
    split at h
    case h_2 => simp at h
    split at h
    case isFalse => simp at h
    rename_i htu
    rw [if_pos htu]
    unfold aappend at h ⊢
    split at h
    case h_2 => simp at h
    split at h
    case h_2 => simp at h
    split at h
    · simp at h
    rename_i hc
    rw [if_neg hc]
    have hs : ∀ sz v, srcCells { s with tmp := τ } sz v = srcCells s sz v := fun sz v => by cases v <;> rfl
    rw [hs]
    split at h
    case h_2 => simp at h
    split at h
    · split at h
      · rename_i hk; rw [if_pos hk]; exact new_tmp h
      · simp at h
    · rename_i β γ n hx'
      split at h
      · rename_i blk hb
        have hb' : blkOf { s with tmp := τ } β γ = some blk := hb
        rw [hb']
        simp only
        split at h
        · rename_i hk
          rw [if_pos hk]
          simp only [Option.some.injEq] at h ⊢
          subst h
          simp [putT, upd]
        · simp at h
      · simp at h
    · simp at h
  · rename_i args ats d
    split at h
    case h_2 => simp at h
    rename_i x y t u hx hu
    have e1 := hev x (by simp [Op.operands, Call.operands, ← Array.mem_toList_iff, hx])
    have e2 := hev y (by simp [Op.operands, Call.operands, ← Array.mem_toList_iff, hx])
    simp only [e1, e2]
    unfold acopy at h ⊢
    split at h
    case h_2 => simp at h
    split at h
    case h_2 => simp at h
    have hs : ∀ sz v, srcCells { s with tmp := τ } sz v = srcCells s sz v := fun sz v => by cases v <;> rfl
    rw [hs]
    split at h
    case h_2 => simp at h
    split at h
    case h_2 => simp at h
    rename_i β γ off n hx'
    split at h
    case h_2 => simp at h
    rename_i blk hb
    have hb' : blkOf { s with tmp := τ } β γ = some blk := hb
    rw [hb']
    simp only
    split at h
    case isFalse => simp at h
    rename_i hk
    rw [if_pos hk]
    simp only [Option.some.injEq] at h ⊢
    subst h
    simp [putT, upd]
  · rename_i args ats
    split at h
    case h_2 => simp at h
    rename_i x t hx hu
    have e1 := hev x (by simp [Op.operands, Call.operands, ← Array.mem_toList_iff, hx])
    simp only [e1]
    unfold aclear at h ⊢
    split at h
    case h_2 => simp at h
    split at h
    case h_2 => simp at h
    split at h
    case h_2 => simp at h
    rename_i β γ off n hx'
    split at h
    case h_2 => simp at h
    rename_i blk hb
    have hb' : blkOf { s with tmp := τ } β γ = some blk := hb
    rw [hb']
    simp only
    split at h
    case isFalse => simp at h
    rename_i hk
    rw [if_pos hk]
    simp only [Option.some.injEq] at h ⊢
    subst h
    simp [putT]
  · simp at h
theorem put_tmp {s s' : ASt} {dst : Option Tmp} {v : AVal} {τ : Nat → AVal} (h : s.put dst v = some s') : ASt.put { s with tmp := τ } dst v = some { s' with tmp := putT dst τ s' } := by
  obtain ⟨h1, rfl⟩ := put_putD h
  rw [putD_put (s := { s with tmp := τ }) h1]
  cases dst with
  | none => rfl
  | some d => simp [ASt.putD, ASt.set, putT, upd]
theorem blkOf_tmp (s : ASt) (τ : Nat → AVal) (β g : Nat) : blkOf { s with tmp := τ } β g = blkOf s β g := rfl
mutual
theorem xn_tmp (s : ASt) (τ : Nat → AVal) : ∀ (t : XT) (x : AVal), xn { s with tmp := τ } x t = xn s x t
  | .v _, x => by cases x <;> rfl
  | .ol sz cells n, x => by
    cases x <;> try rfl
    simp only [xn, blkOf_tmp]
    split <;> simp only [xnL_tmp s τ cells]
  | .op cells, x => by
    cases x <;> try rfl
    simp only [xn, blkOf_tmp]
    split <;> simp only [xnL_tmp s τ cells]
  | .agg cs, x => by
    cases x <;> try rfl
    simp only [xn, xnL_tmp s τ cs]
  | .tup cs, x => by
    cases x <;> try rfl
    simp only [xn, xnL_tmp s τ cs]
theorem xnL_tmp (s : ASt) (τ : Nat → AVal) : ∀ (cs : List XT) (xs : List AVal), xnL { s with tmp := τ } xs cs = xnL s xs cs
  | [], xs => by cases xs <;> rfl
  | c :: cs, [] => rfl
  | c :: cs, x :: xs => by simp only [xnL, xn_tmp s τ c x, xnL_tmp s τ cs xs]
end
mutual
theorem XV_tmp (sm s : ASt) (τ τ' : Nat → AVal) : ∀ (t : XT) (x : AVal), XV { sm with tmp := τ' } { s with tmp := τ } x t = XV sm s x t
  | .v a, x => by
    have : ∀ sm s : ASt, XV sm s x (.v a) = (snap 6 sm x = some a) := fun sm s => by cases x <;> rfl
    rw [this, this, snap_tmp]
  | .ol sz cells n, x => by
    cases x <;> try rfl
    simp only [XV, blkOf_tmp]
    split <;> simp only [XVL_tmp sm s τ τ' cells]
  | .op cells, x => by
    cases x <;> try rfl
    simp only [XV, blkOf_tmp]
    split <;> simp only [XVL_tmp sm s τ τ' cells]
  | .agg cs, x => by
    cases x <;> try rfl
    simp only [XV, XVL_tmp sm s τ τ' cs]
  | .tup cs, x => by
    cases x <;> try rfl
    simp only [XV, XVL_tmp sm s τ τ' cs]
theorem XVL_tmp (sm s : ASt) (τ τ' : Nat → AVal) : ∀ (cs : List XT) (xs : List AVal), XVL { sm with tmp := τ' } { s with tmp := τ } xs cs = XVL sm s xs cs
  | [], xs => by cases xs <;> rfl
  | c :: cs, [] => rfl
  | c :: cs, x :: xs => by simp only [XVL, XV_tmp sm s τ τ' c x, XVL_tmp sm s τ τ' cs xs]
end
mutual
theorem xtree_tmp (s : ASt) (τ : Nat → AVal) : ∀ (t : XT) (x : AVal), xtree { s with tmp := τ } x t = xtree s x t
  | .v _, x => by cases x <;> rfl
  | .ol sz cells n, x => by
    cases x <;> try rfl
    simp only [xtree, blkOf_tmp]
    split <;> simp only [xtreeL_tmp s τ cells]
  | .op cells, x => by
    cases x <;> try rfl
    simp only [xtree, blkOf_tmp]
    split <;> simp only [xtreeL_tmp s τ cells]
  | .agg cs, x => by
    cases x <;> try rfl
    simp only [xtree, xtreeL_tmp s τ cs]
  | .tup cs, x => by
    cases x <;> try rfl
    simp only [xtree, xtreeL_tmp s τ cs]
theorem xtreeL_tmp (s : ASt) (τ : Nat → AVal) : ∀ (cs : List XT) (xs : List AVal), xtreeL { s with tmp := τ } xs cs = xtreeL s xs cs
  | [], xs => by cases xs <;> rfl
  | c :: cs, [] => rfl
  | c :: cs, x :: xs => by simp only [xtreeL, xtree_tmp s τ c x, xtreeL_tmp s τ cs xs]
end
mutual
theorem xkeep_tmp (s : ASt) (τ : Nat → AVal) : ∀ (t : XT) (x : AVal), xkeep { s with tmp := τ } x t = xkeep s x t
  | .v _, x => by cases x <;> rfl
  | .ol sz cells n, x => by cases x <;> rfl
  | .op cells, x => by cases x <;> rfl
  | .agg cs, x => by
    cases x <;> try rfl
    simp only [xkeep, xkeepL_tmp s τ cs]
  | .tup cs, x => by cases x <;> rfl
theorem xkeepL_tmp (s : ASt) (τ : Nat → AVal) : ∀ (cs : List XT) (xs : List AVal), xkeepL { s with tmp := τ } xs cs = xkeepL s xs cs
  | [], xs => by cases xs <;> rfl
  | c :: cs, [] => rfl
  | c :: cs, x :: xs => by simp only [xkeepL, xkeep_tmp s τ c x, xkeepL_tmp s τ cs xs]
end
theorem aEff_tmp {ops : Array Oper} {s s' : ASt} {τ : Nat → AVal} {o : Oper} (hl : ∀ t ∈ o.looksAt ops, τ t = s.tmp t) (h : AEff P o s s') : AEff P o { s with tmp := τ } { s' with tmp := putT o.dst τ s' } := by
  have hev := eval_agree hl
  rcases h with ⟨h1, h2⟩ | ⟨fx, args, ats, f, cs, ho, hf, xa, xa', t, q1, q2, q3, q4, q5, q6, s1, q7, rfl⟩
  · exact .inl ⟨h1, aeff_tmp hev h2⟩
  · have e1 : ASt.eval { s with tmp := τ } fx = s.eval fx := hev fx (by rw [ho]; simp [Op.operands, Call.operands])
    have e2 : args.toList.map (ASt.eval { s with tmp := τ }) = args.toList.map s.eval := mapEval_tmp fun y hy => hev y (by rw [ho]; simp [Op.operands, Call.operands]; exact .inr (by simpa using hy))
    refine .inr ⟨fx, args, ats, f, cs, ho, by rw [e1, e2]; exact hf, ?_⟩
    refine ⟨xa, xa', t, q1, ?_, by rw [xnL_tmp]; exact q3, by rw [xkeepL_tmp]; exact q4, by rw [xtreeL_tmp]; exact q5, q6, _, ?_, rfl⟩
    · rw [xnL_tmp]
      have := XVL_tmp (s.without (xnL s cs xa)) s τ τ xa cs
      exact this ▸ q2
    · rw [xnL_tmp]
      exact put_tmp (τ := τ) q7
end
end Go.Own
