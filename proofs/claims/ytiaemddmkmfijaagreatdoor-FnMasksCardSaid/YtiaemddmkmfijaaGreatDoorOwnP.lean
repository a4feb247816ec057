/-
  OWN WORK, generic over any program: regions that draw their order: whatever is drawn, the text's order has told the end.
-/
import Derived.Test.YtiaemddmkmfijaaGreatDoorOwnK
namespace Go.Own
open Go Go.RowKit
variable [GL]
set_option linter.unusedSectionVars false

section
variable {P : Program} {okA : Nat → Prop} {w0 : Base}

/-! ### what an operation looks at -/
def AYields (P : Program) (ops : Array Oper) (s : ASt) (o : Oper) (v : AVal) : Prop :=
  match o.guard with
  | none => AOut P s o v
  | some (j, want) => ∃ d, (ops[j]?).bind (·.dst) = some d ∧ d < s.n ∧ ((s.tmp d = .flat (.bool want) ∧ AOut P s o v) ∨ ((s.tmp d = .flat (.bool !want) ∨ s.tmp d = .tup []) ∧ v = .tup []))
def Skip (ops : Array Oper) (s : ASt) (o : Oper) (v : AVal) : Prop :=
  ∃ j want d, o.guard = some (j, want) ∧ (ops[j]?).bind (·.dst) = some d ∧ d < s.n ∧ (s.tmp d = .flat (.bool !want) ∨ s.tmp d = .tup []) ∧ v = .tup []
def GOn (ops : Array Oper) (s : ASt) (o : Oper) : Prop :=
  o.guard = none ∨ ∃ j want d, o.guard = some (j, want) ∧ (ops[j]?).bind (·.dst) = some d ∧ d < s.n ∧ s.tmp d = .flat (.bool want)
theorem skip_yields {ops : Array Oper} {s : ASt} {o : Oper} {v : AVal} (h : Skip ops s o v) : AYields P ops s o v := by
  obtain ⟨j, want, d, hg, hd, hn, ht, hv⟩ := h
  unfold AYields
  rw [hg]
  exact ⟨d, hd, hn, .inr ⟨ht, hv⟩⟩
theorem eval_agree {ops : Array Oper} {o : Oper} {s : ASt} {τ : Nat → AVal} (h : ∀ t ∈ o.looksAt ops, τ t = s.tmp t) : ∀ x ∈ o.op.operands, ASt.eval { s with tmp := τ } x = s.eval x := by
  intro x hx
  cases x with
  | tmp t => exact h t (List.mem_append_left _ (List.mem_filterMap.2 ⟨.tmp t, by simpa using hx, by simp⟩))
  | const v => rfl
  | global g => rfl
  | func f => rfl
theorem guard_looks {ops : Array Oper} {o : Oper} {j d : Nat} {want : Bool} (hg : o.guard = some (j, want)) (hd : (ops[j]?).bind (·.dst) = some d) : d ∈ o.looksAt ops := by
  unfold Oper.looksAt
  rw [hg]
  simp [hd]
theorem afroz_congr {s : ASt} {τ : Nat → AVal} {o : Oper} (hev : ∀ x ∈ o.op.operands, ASt.eval { s with tmp := τ } x = s.eval x) : afroz P { s with tmp := τ } o = afroz P s o := by
  obtain ⟨dst, op, type, pos, after, guard⟩ := o
  unfold afroz
  dsimp only at hev ⊢
  split
  · rename_i t x
    rw [hev x (by simp [Op.operands])]
  · rename_i t len parts
    have e : (parts.toList.map fun p => (p.1, ASt.eval { s with tmp := τ } p.2)) = parts.toList.map fun p => (p.1, s.eval p.2) := List.map_congr_left fun p hp => by rw [hev p.2 (by simp [Op.operands]; exact ⟨p.1, by simpa using hp⟩)]
    unfold afrozB
    rw [e]
  · rfl
theorem afroz_heap {s : ASt} {o : Oper} (hp : Nat → Option Blk) (g : Nat) : afroz P { s with heap := hp, gen := g } o = afroz P s o := by
  have ev : ASt.eval { s with heap := hp, gen := g } = s.eval := funext fun x => by cases x <;> rfl
  unfold afroz afrozB
  simp only [ev]
theorem aout_tmp {s : ASt} {τ : Nat → AVal} {o : Oper} {v : AVal} (hev : ∀ x ∈ o.op.operands, ASt.eval { s with tmp := τ } x = s.eval x) : AOut P { s with tmp := τ } o v ↔ AOut P s o v := by
  unfold AOut
  rw [avalue_congr o hev, afroz_congr hev]
  refine or_congr ?_ Iff.rfl
  refine exists_congr fun fx => exists_congr fun args => exists_congr fun ats => exists_congr fun f => exists_congr fun cs => exists_congr fun as => and_congr_right fun ho => ?_
  have e1 : ASt.eval { s with tmp := τ } fx = s.eval fx := hev fx (by rw [ho]; simp [Op.operands, Call.operands])
  have e2 : args.toList.map (ASt.eval { s with tmp := τ }) = args.toList.map s.eval := mapEval_tmp fun y hy => hev y (by rw [ho]; simp [Op.operands, Call.operands]; exact .inr (by simpa using hy))
  rw [e1, e2, snapL_tmp]
theorem ayields_tmp {ops : Array Oper} {s : ASt} {τ : Nat → AVal} {o : Oper} {v : AVal} (h : ∀ t ∈ o.looksAt ops, τ t = s.tmp t) (hy : AYields P ops s o v) : AYields P ops { s with tmp := τ } o v := by
  unfold AYields at *
  split at hy
  · exact (aout_tmp (eval_agree h)).2 hy
  · rename_i j want hg
    obtain ⟨d, hd, hn, hy⟩ := hy
    have e : τ d = s.tmp d := h d (guard_looks hg hd)
    exact ⟨d, hd, hn, by simpa only [e, aout_tmp (eval_agree h)] using hy⟩
theorem avalue_heapless {s : ASt} {o : Oper} (h : heapless o.op = true) (hp : Nat → Option Blk) (g : Nat) : avalue P { s with heap := hp, gen := g } o = avalue P s o := by
  obtain ⟨dst, op, type, pos, after, guard⟩ := o
  have ev : ∀ x, ASt.eval { s with heap := hp, gen := g } x = s.eval x := fun x => by cases x <;> rfl
  cases op <;> simp only [heapless] at h <;> first | (cases h; done) | skip
  case binOp op t x y t2 =>
    have hq : nilQ op y = false := by simpa using h
    simp only [avalue, ev, hq, Bool.false_eq_true, if_false]
  case assign x =>
    simp only [avalue, asgn]
    rfl
  all_goals first | rfl | (simp only [avalue, ev]; done) | (simp only [avalue, abuild, ev])
theorem ayields_heapless {ops : Array Oper} {s : ASt} {o : Oper} {v : AVal} (h : heapless o.op = true) (hp : Nat → Option Blk) (g : Nat) (hy : AYields P ops s o v) : AYields P ops { s with heap := hp, gen := g } o v := by
  have key : AOut P s o v → AOut P { s with heap := hp, gen := g } o v := fun hy => by
    rcases hy with ⟨fx, args, ats, f, cs, as, ho, _⟩ | ⟨h1, h2, h3⟩ | ⟨h1, h2, h3⟩
    · rw [ho] at h; cases h
    · exact .inr (.inl ⟨h1, h2, by rw [avalue_heapless h]; exact h3⟩)
    · exact .inr (.inr ⟨h1, h2, by rw [afroz_heap]; exact h3⟩)
  unfold AYields at *
  split at hy
  · exact key hy
  · obtain ⟨d, hd, hn, hy⟩ := hy
    exact ⟨d, hd, hn, hy.imp (fun q => ⟨q.1, key q.2⟩) id⟩

/-! ### a heap that has grown -/
def HExt (s : ASt) (hp : Nat → Option Blk) : Prop := ∀ β blk, s.heap β = some blk → hp β = some blk
theorem blkOf_ext {s : ASt} {hp : Nat → Option Blk} {g β γ : Nat} {blk : Blk} (hx : HExt s hp) (h : blkOf s β γ = some blk) : blkOf { s with heap := hp, gen := g } β γ = some blk := by
  obtain ⟨h1, h2⟩ := blkOf_spec h
  have := hx β blk h1
  simp only [blkOf, this, h2, if_true]
theorem live_ext {s : ASt} {hp : Nat → Option Blk} {g : Nat} (hx : HExt s hp) {v : AVal} (h : live s v = true) : live { s with heap := hp, gen := g } v = true := by
  cases v <;> simp only [live] at h ⊢
  all_goals
    obtain ⟨blk, hb⟩ := Option.isSome_iff_exists.1 h
    rw [blkOf_ext hx hb]; rfl
theorem nilA_ext {P : Program} {s : ASt} {hp : Nat → Option Blk} {g : Nat} (hx : HExt s hp) {t : TypeId} {v r : AVal} (h : nilA P s t v = some r) : nilA P { s with heap := hp, gen := g } t v = some r := by
  unfold nilA at h ⊢
  split at h
  · split at h
    · exact h
    · exact h
    · exact h
    · split at h
      · rename_i hc
        rw [if_pos ⟨hc.1, live_ext hx hc.2⟩]
        exact h
      · simp at h
    · simp at h
  · simp at h
theorem snap_ext {s : ASt} {hp : Nat → Option Blk} {g : Nat} (hx : HExt s hp) : ∀ (k : Nat) (v t : AVal), snap k s v = some t → snap k { s with heap := hp, gen := g } v = some t
  | 0, v, t, h => by simp [snap] at h
  | k + 1, v, t, h => by
    have M : ∀ {l r : List AVal}, l.mapM (snap k s) = some r → l.mapM (snap k { s with heap := hp, gen := g }) = some r := by
      intro l
      induction l with
      | nil => intro r h; exact h
      | cons x l ih =>
        intro r h
        simp only [List.mapM_cons, Option.bind_eq_bind, Option.bind_eq_some_iff, Option.pure_def, Option.some.injEq] at h ⊢
        obtain ⟨y, hy, ys, hys, rfl⟩ := h
        exact ⟨y, snap_ext hx k x y hy, ys, ih hys, rfl⟩
    cases v with
    | own β γ off n =>
      simp only [snap] at h ⊢
      split at h
      case h_2 => simp at h
      rename_i blk hb
      rw [blkOf_ext hx hb]
      simp only
      split at h
      case isFalse => simp at h
      rename_i hl
      rw [if_pos hl]
      split at h
      · rename_i ht; rw [if_pos ht]; exact h
      · rename_i ht
        rw [if_neg ht]
        split at h
        case h_2 => simp at h
        rename_i l hm
        rw [M hm]; exact h
    | ptr β γ off =>
      simp only [snap] at h ⊢
      split at h
      case h_2 => simp at h
      rename_i blk hb
      rw [blkOf_ext hx hb]
      simp only
      split at h
      · rename_i ht; rw [if_pos ht]; exact h
      · rename_i ht
        rw [if_neg ht]
        split at h
        case h_2 => simp at h
        rename_i l hm
        rw [M hm]; exact h
    | agg cs =>
      simp only [snap] at h ⊢
      split at h
      case h_2 => simp at h
      rename_i l hm
      rw [M hm]; exact h
    | tup cs =>
      simp only [snap] at h ⊢
      split at h
      case h_2 => simp at h
      rename_i l hm
      rw [M hm]; exact h
    | clo f cs =>
      simp only [snap] at h ⊢
      split at h
      case h_2 => simp at h
      rename_i l hm
      rw [M hm]; exact h
    | bnd f cs =>
      simp only [snap] at h ⊢
      split at h
      case h_2 => simp at h
      rename_i l hm
      rw [M hm]; exact h
    | _ => simpa only [snap] using h
theorem snapL_ext {s : ASt} {hp : Nat → Option Blk} {g : Nat} (hx : HExt s hp) : ∀ {l r : List AVal}, snapL s l = some r → snapL { s with heap := hp, gen := g } l = some r
  | [], r, h => h
  | x :: l, r, h => by
    simp only [snapL] at h ⊢
    split at h
    · rename_i y ys hy hys
      rw [snap_ext hx 6 x y hy, snapL_ext hx hys]; exact h
    · simp at h
theorem aload_ext {s : ASt} {hp : Nat → Option Blk} {g : Nat} (hx : HExt s hp) {t : TypeId} {v r : AVal} (h : aload P s t v = some r) : aload P { s with heap := hp, gen := g } t v = some r := by
  cases v <;> simp only [aload] at h ⊢ <;> try exact h
  split at h
  · rename_i i blk hi hb
    rw [blkOf_ext hx hb, hi]
    exact h
  · simp at h
theorem szOk_ext {s : ASt} {hp : Nat → Option Blk} {g : Nat} (hx : HExt s hp) {t : TypeId} {v : AVal} (hl : live s v = true) (h : szOk P s t v = true) : szOk P { s with heap := hp, gen := g } t v = true := by
  cases v with
  | own β γ off n =>
    obtain ⟨blk, hb⟩ := Option.isSome_iff_exists.1 (show (blkOf s β γ).isSome = true from hl)
    simp only [szOk] at h ⊢
    rw [hb] at h
    rw [blkOf_ext hx hb]
    exact h
  | _ => rfl
theorem avalue_ext {s : ASt} {hp : Nat → Option Blk} {g : Nat} (hx : HExt s hp) {o : Oper} {v : AVal} (h : avalue P s o = some v) : avalue P { s with heap := hp, gen := g } o = some v := by
  by_cases hh : heapless o.op = true
  · rw [avalue_heapless hh]; exact h
  obtain ⟨dst, op, type, pos, after, guard⟩ := o
  have ev : ∀ x, ASt.eval { s with heap := hp, gen := g } x = s.eval x := fun x => by cases x <;> rfl
  have evf : ASt.eval { s with heap := hp, gen := g } = s.eval := funext ev
  have opt : ∀ (d : Nat) (x : Option Operand), optI { s with heap := hp, gen := g } d x = optI s d x := fun d x => by cases x <;> simp only [optI, ev]
  have slc : ∀ (t : TypeId) (x : AVal) (lo hi mx : Option Operand), asliceV P { s with heap := hp, gen := g } t x lo hi mx = asliceV P s t x lo hi mx := fun t x lo hi mx => by
    unfold asliceV
    simp only [opt]
  cases op <;> simp only [heapless, not_true_eq_false] at hh
  case binOp op t x y t2 =>
    have hq : nilQ op y = true := by simpa using hh
    simp only [avalue, ev, hq, if_true] at h ⊢
    exact nilA_ext hx h
  case call c =>
    obtain ⟨callee, args, ats⟩ := c
    cases callee with
    | builtin b =>
      cases b <;> simp only [avalue, evf] at h ⊢ <;> try exact h
      split at h
      · rename_i x hx'
        split at h
        · rename_i hl
          rw [if_pos (live_ext hx hl)]
          exact h
        · simp at h
      · simp at h
    | value f => simp only [avalue] at h; simp at h
    | invoke r m => simp only [avalue] at h; simp at h
  case makeFunc fn first captured =>
    cases fn <;> try (simp only [avalue] at h; simp at h; done)
    obtain ⟨l⟩ := first
    cases l with
    | nil =>
      simp only [avalue, evf] at h ⊢
      exact h
    | cons x xs =>
      obtain ⟨c⟩ := captured
      cases c with
      | nil =>
        simp only [avalue, evf] at h ⊢
        exact h
      | cons y ys => simp only [avalue] at h; simp at h
  case fieldAddr t x f =>
    simp only [avalue, ev] at h ⊢
    split at h
    · rename_i hl
      rw [if_pos (live_ext hx hl)]; exact h
    · simp at h
  case indexAddr t x ix =>
    simp only [avalue, ev] at h ⊢
    split at h
    · rename_i hl
      rw [if_pos (live_ext hx hl)]; exact h
    · simp at h
  case load t x =>
    simp only [avalue, ev] at h ⊢
    exact aload_ext hx h
  case nilCheck x =>
    simp only [avalue, ev] at h ⊢
    split at h
    · rename_i β γ off e
      split at h
      · rename_i hl
        rw [if_pos (live_ext hx hl)]; exact h
      · simp at h
    · exact h
    · exact h
    · simp at h
  case slice t x lo hi mx =>
    simp only [avalue, evf, slc] at h ⊢
    split at h
    · exact h
    · rename_i hnf
      split at h
      · rename_i hl
        rw [if_pos (live_ext hx hl)]
        split at h
        · rename_i hs
          rw [if_pos (szOk_ext hx hl hs)]; exact h
        · simp at h
      · simp at h
  all_goals first | (simp only [avalue, ev] at h ⊢; exact h) | (simp only [avalue] at h ⊢; exact h)
theorem ayields_ext {ops : Array Oper} {s : ASt} {o : Oper} {v : AVal} {hp : Nat → Option Blk} {g : Nat} (hx : HExt s hp) (hy : AYields P ops s o v) : AYields P ops { s with heap := hp, gen := g } o v := by
  have key : AOut P s o v → AOut P { s with heap := hp, gen := g } o v := fun hy => by
    rcases hy with ⟨fx, args, ats, f, cs, as, ho, hf, h1, h2⟩ | ⟨h1, h2, h3⟩ | ⟨h1, h2, h3⟩
    · have evf : ASt.eval { s with heap := hp, gen := g } = s.eval := funext fun x => by cases x <;> rfl
      exact .inl ⟨fx, args, ats, f, cs, as, ho, by rw [evf]; exact hf, snapL_ext hx h1, h2⟩
    · exact .inr (.inl ⟨h1, h2, avalue_ext hx h3⟩)
    · exact .inr (.inr ⟨h1, h2, by rw [afroz_heap]; exact h3⟩)
  unfold AYields at *
  split at hy
  · exact key hy
  · obtain ⟨d, hd, hn, hy⟩ := hy
    exact ⟨d, hd, hn, hy.imp (fun q => ⟨q.1, key q.2⟩) id⟩

theorem ayields_noh {ops : Array Oper} {s : ASt} {o : Oper} {v : AVal} (h : NoH P s o) (hp : Nat → Option Blk) (g : Nat) (hy : AYields P ops s o v) : AYields P ops { s with heap := hp, gen := g } o v := by
  obtain ⟨n1, n2, n3⟩ := h
  have key : AOut P s o v → AOut P { s with heap := hp, gen := g } o v := fun hy => by
    rcases hy with ⟨fx, args, ats, f, cs, as, ho, _⟩ | ⟨h1, h2, h3⟩ | ⟨h1, _⟩
    · rw [ho] at n2; exact n2.elim
    · rw [← n3] at h3
      exact .inr (.inl ⟨h1, h2, avalue_ext (s := { s with heap := fun _ => none }) (hp := hp) (g := g) (fun β blk hb => by simp at hb) h3⟩)
    · rw [n1] at h1; simp at h1
  unfold AYields at *
  split at hy
  · exact key hy
  · obtain ⟨d, hd, hn, hy⟩ := hy
    exact ⟨d, hd, hn, hy.imp (fun q => ⟨q.1, key q.2⟩) id⟩

/-! ### an operation that writes, over other temporaries -/
def putT (dst : Option Tmp) (τ : Nat → AVal) (s' : ASt) : Nat → AVal := match dst with
  | some d => upd τ d (s'.tmp d)
  | none => τ
theorem new_tmp {s s' : ASt} {d sz : Nat} {cells : List AVal} {v : AVal} {τ : Nat → AVal} (h : s.new d sz cells v = some s') : ASt.new { s with tmp := τ } d sz cells v = some { s' with tmp := putT (some d) τ s' } := by
  obtain ⟨h1, rfl⟩ := new_eq h
  simp [ASt.new, h1, putT, upd]
theorem aeff_tmp {s s' : ASt} {τ : Nat → AVal} {o : Oper} (hev : ∀ x ∈ o.op.operands, ASt.eval { s with tmp := τ } x = s.eval x) (h : aeff P s o = some s') : aeff P { s with tmp := τ } o = some { s' with tmp := putT o.dst τ s' } := by
  obtain ⟨dst, op, type, pos, after, guard⟩ := o
  unfold aeff at h ⊢
  dsimp only at h hev ⊢
  split at h
  · rename_i t d
    simp only [aalloc] at h ⊢
    split at h
    · exact new_tmp h
    · simp at h
  · rename_i t x d
    have e := hev x (by simp [Op.operands])
    simp only [abox, e] at h ⊢
    split at h
    · split at h
      · exact new_tmp h
      · simp at h
    · simp at h
  · rename_i t l c d
    have e1 := hev l (by simp [Op.operands])
    have e2 := hev c (by simp [Op.operands])
    simp only [e1, e2]
    unfold amakeSlice at h ⊢
    split at h
    · split at h
      · split at h
        · split at h
          · rename_i hc; rw [if_pos hc]; exact new_tmp h
          · simp at h
        · simp at h
      · simp at h
    · simp at h
  · rename_i t len parts d
    have e : (parts.toList.map fun p => (p.1, ASt.eval { s with tmp := τ } p.2)) = parts.toList.map fun p => (p.1, s.eval p.2) := List.map_congr_left fun p hp => by rw [hev p.2 (by simp [Op.operands]; exact ⟨p.1, by simpa using hp⟩)]
    unfold abuildSlice at h ⊢
    rw [e]
    split at h
    · split at h
      · split at h
        · rename_i hc
          rw [if_pos hc]
          split at h
          · exact new_tmp h
          · simp at h
        · simp at h
      · simp at h
    · simp at h
  · rename_i t x v
    have e1 := hev x (by simp [Op.operands])
    have e2 := hev v (by simp [Op.operands])
    simp only [e1, e2]
    unfold astore at h ⊢
    split at h
    · split at h
      · split at h
        · rename_i hl
          rw [if_pos hl]
          split at h
          · rename_i β γ off hx
            split at h
            · rename_i blk hb
              have hb' : blkOf { s with tmp := τ } β γ = some blk := hb
              rw [hb']
              simp only
              split at h
              · rename_i hle
                rw [if_pos hle]
                simp only [Option.some.injEq] at h ⊢
                subst h
                rfl
              · simp at h
            · simp at h
          · simp at h
        · simp at h
      · simp at h
    · simp at h
  · rename_i args ats d
    split at h
    case h_2 => simp at h
    rename_i x y t u hx hu
    have e1 := hev x (by simp [Op.operands, Call.operands, ← Array.mem_toList_iff, hx])
    have e2 := hev y (by simp [Op.operands, Call.operands, ← Array.mem_toList_iff, hx])
    simp only [e1, e2]
    split at h
    case h_2 => simp at h
    split at h
    case isFalse => simp at h
    rename_i htu
    rw [if_pos htu]
    unfold aappend at h ⊢
    split at h
    case h_2 => simp at h
    split at h
    case h_2 => simp at h
    split at h
    · simp at h
    rename_i hc
    rw [if_neg hc]
    have hs : ∀ sz v, srcCells { s with tmp := τ } sz v = srcCells s sz v := fun sz v => by cases v <;> rfl
    rw [hs]
    split at h
    case h_2 => simp at h
    split at h
    · split at h
      · rename_i hk; rw [if_pos hk]; exact new_tmp h
      · simp at h
    · rename_i β γ n hx'
      split at h
      · rename_i blk hb
        have hb' : blkOf { s with tmp := τ } β γ = some blk := hb
        rw [hb']
        simp only
        split at h
        · rename_i hk
          rw [if_pos hk]
          simp only [Option.some.injEq] at h ⊢
          subst h
          simp [putT, upd]
        · simp at h
      · simp at h
    · simp at h
  · rename_i args ats d
    split at h
    case h_2 => simp at h
    rename_i x y t u hx hu
    have e1 := hev x (by simp [Op.operands, Call.operands, ← Array.mem_toList_iff, hx])
    have e2 := hev y (by simp [Op.operands, Call.operands, ← Array.mem_toList_iff, hx])
    simp only [e1, e2]
    unfold acopy at h ⊢
    split at h
    case h_2 => simp at h
    split at h
    case h_2 => simp at h
    have hs : ∀ sz v, srcCells { s with tmp := τ } sz v = srcCells s sz v := fun sz v => by cases v <;> rfl
    rw [hs]
    split at h
    case h_2 => simp at h
    split at h
    case h_2 => simp at h
    rename_i β γ off n hx'
    split at h
    case h_2 => simp at h
    rename_i blk hb
    have hb' : blkOf { s with tmp := τ } β γ = some blk := hb
    rw [hb']
    simp only
    split at h
    case isFalse => simp at h
    rename_i hk
    rw [if_pos hk]
    simp only [Option.some.injEq] at h ⊢
    subst h
    simp [putT, upd]
  · simp at h
theorem put_tmp {s s' : ASt} {dst : Option Tmp} {v : AVal} {τ : Nat → AVal} (h : s.put dst v = some s') : ASt.put { s with tmp := τ } dst v = some { s' with tmp := putT dst τ s' } := by
  obtain ⟨h1, rfl⟩ := put_putD h
  rw [putD_put (s := { s with tmp := τ }) h1]
  cases dst with
  | none => rfl
  | some d => simp [ASt.putD, ASt.set, putT, upd]
theorem blkOf_tmp (s : ASt) (τ : Nat → AVal) (β g : Nat) : blkOf { s with tmp := τ } β g = blkOf s β g := rfl
mutual
theorem xn_tmp (s : ASt) (τ : Nat → AVal) : ∀ (t : XT) (x : AVal), xn { s with tmp := τ } x t = xn s x t
  | .v _, x => by cases x <;> rfl
  | .ol sz cells n, x => by
    cases x <;> try rfl
    simp only [xn, blkOf_tmp]
    split <;> simp only [xnL_tmp s τ cells]
  | .op cells, x => by
    cases x <;> try rfl
    simp only [xn, blkOf_tmp]
    split <;> simp only [xnL_tmp s τ cells]
  | .agg cs, x => by
    cases x <;> try rfl
    simp only [xn, xnL_tmp s τ cs]
  | .tup cs, x => by
    cases x <;> try rfl
    simp only [xn, xnL_tmp s τ cs]
theorem xnL_tmp (s : ASt) (τ : Nat → AVal) : ∀ (cs : List XT) (xs : List AVal), xnL { s with tmp := τ } xs cs = xnL s xs cs
  | [], xs => by cases xs <;> rfl
  | c :: cs, [] => rfl
  | c :: cs, x :: xs => by simp only [xnL, xn_tmp s τ c x, xnL_tmp s τ cs xs]
end
mutual
theorem XV_tmp (sm s : ASt) (τ τ' : Nat → AVal) : ∀ (t : XT) (x : AVal), XV { sm with tmp := τ' } { s with tmp := τ } x t = XV sm s x t
  | .v a, x => by
    have : ∀ sm s : ASt, XV sm s x (.v a) = (snap 6 sm x = some a) := fun sm s => by cases x <;> rfl
    rw [this, this, snap_tmp]
  | .ol sz cells n, x => by
    cases x <;> try rfl
    simp only [XV, blkOf_tmp]
    split <;> simp only [XVL_tmp sm s τ τ' cells]
  | .op cells, x => by
    cases x <;> try rfl
    simp only [XV, blkOf_tmp]
    split <;> simp only [XVL_tmp sm s τ τ' cells]
  | .agg cs, x => by
    cases x <;> try rfl
    simp only [XV, XVL_tmp sm s τ τ' cs]
  | .tup cs, x => by
    cases x <;> try rfl
    simp only [XV, XVL_tmp sm s τ τ' cs]
theorem XVL_tmp (sm s : ASt) (τ τ' : Nat → AVal) : ∀ (cs : List XT) (xs : List AVal), XVL { sm with tmp := τ' } { s with tmp := τ } xs cs = XVL sm s xs cs
  | [], xs => by cases xs <;> rfl
  | c :: cs, [] => rfl
  | c :: cs, x :: xs => by simp only [XVL, XV_tmp sm s τ τ' c x, XVL_tmp sm s τ τ' cs xs]
end
mutual
theorem xtree_tmp (s : ASt) (τ : Nat → AVal) : ∀ (t : XT) (x : AVal), xtree { s with tmp := τ } x t = xtree s x t
  | .v _, x => by cases x <;> rfl
  | .ol sz cells n, x => by
    cases x <;> try rfl
    simp only [xtree, blkOf_tmp]
    split <;> simp only [xtreeL_tmp s τ cells]
  | .op cells, x => by
    cases x <;> try rfl
    simp only [xtree, blkOf_tmp]
    split <;> simp only [xtreeL_tmp s τ cells]
  | .agg cs, x => by
    cases x <;> try rfl
    simp only [xtree, xtreeL_tmp s τ cs]
  | .tup cs, x => by
    cases x <;> try rfl
    simp only [xtree, xtreeL_tmp s τ cs]
theorem xtreeL_tmp (s : ASt) (τ : Nat → AVal) : ∀ (cs : List XT) (xs : List AVal), xtreeL { s with tmp := τ } xs cs = xtreeL s xs cs
  | [], xs => by cases xs <;> rfl
  | c :: cs, [] => rfl
  | c :: cs, x :: xs => by simp only [xtreeL, xtree_tmp s τ c x, xtreeL_tmp s τ cs xs]
end
mutual
theorem xkeep_tmp (s : ASt) (τ : Nat → AVal) : ∀ (t : XT) (x : AVal), xkeep { s with tmp := τ } x t = xkeep s x t
  | .v _, x => by cases x <;> rfl
  | .ol sz cells n, x => by cases x <;> rfl
  | .op cells, x => by cases x <;> rfl
  | .agg cs, x => by
    cases x <;> try rfl
    simp only [xkeep, xkeepL_tmp s τ cs]
  | .tup cs, x => by cases x <;> rfl
theorem xkeepL_tmp (s : ASt) (τ : Nat → AVal) : ∀ (cs : List XT) (xs : List AVal), xkeepL { s with tmp := τ } xs cs = xkeepL s xs cs
  | [], xs => by cases xs <;> rfl
  | c :: cs, [] => rfl
  | c :: cs, x :: xs => by simp only [xkeepL, xkeep_tmp s τ c x, xkeepL_tmp s τ cs xs]
end
theorem aEff_tmp {ops : Array Oper} {s s' : ASt} {τ : Nat → AVal} {o : Oper} (hl : ∀ t ∈ o.looksAt ops, τ t = s.tmp t) (h : AEff P o s s') : AEff P o { s with tmp := τ } { s' with tmp := putT o.dst τ s' } := by
  have hev := eval_agree hl
  rcases h with ⟨h1, h2⟩ | ⟨fx, args, ats, f, cs, ho, hf, xa, xa', t, q1, q2, q3, q4, q5, q6, s1, q7, rfl⟩
  · exact .inl ⟨h1, aeff_tmp hev h2⟩
  · have e1 : ASt.eval { s with tmp := τ } fx = s.eval fx := hev fx (by rw [ho]; simp [Op.operands, Call.operands])
    have e2 : args.toList.map (ASt.eval { s with tmp := τ }) = args.toList.map s.eval := mapEval_tmp fun y hy => hev y (by rw [ho]; simp [Op.operands, Call.operands]; exact .inr (by simpa using hy))
    refine .inr ⟨fx, args, ats, f, cs, ho, by rw [e1, e2]; exact hf, ?_⟩
    refine ⟨xa, xa', t, q1, ?_, by rw [xnL_tmp]; exact q3, by rw [xkeepL_tmp]; exact q4, by rw [xtreeL_tmp]; exact q5, q6, _, ?_, rfl⟩
    · rw [xnL_tmp]
      have := XVL_tmp (s.without (xnL s cs xa)) s τ τ xa cs
      exact this ▸ q2
    · rw [xnL_tmp]
      exact put_tmp (τ := τ) q7
end
end Go.Own
