/-
  OWN WORK, generic over any program: words for walking over abstract states by 'simp'.
-/
import Derived.Test.YtkmhoebopfgpdaaOwnL
namespace Go.Own
set_option linter.unusedSimpArgs false
open Go Go.RowKit
variable [GL]
set_option linter.unusedSectionVars false

/-! ### what is still to do, as data: so that 'simp' does not look into what follows -/
inductive KItem where
  | code (c : Code)
  | ops (dr : DrM) (ops : Array Oper) (rest : List Oper)
  | blk (id : Nat)
def ex (P : Program) : List KItem → (Ex → ASt → Prop) → Ex → ASt → Prop
  | [], R, e, s => R e s
  | .code c :: ks, R, e, s => thenA (awp P c (ex P ks R)) (ex P ks R) e s
  | .ops dr ops rest :: ks, R, e, s => thenA (aops P dr ops (ex P ks R .normal) rest) (ex P ks R) e s
  | .blk id :: ks, R, e, s => inBlockA id (ex P ks R) e s
def condE (P : Program) (v : AVal) (a b : Code) (ks : List KItem) (R : Ex → ASt → Prop) (s : ASt) : Prop := condP v (ex P (.code a :: ks) R .normal s) (ex P (.code b :: ks) R .normal s)
def stepE (P : Program) (dr : DrM) (o : Oper) (ops : Array Oper) (rest : List Oper) (ks : List KItem) (R : Ex → ASt → Prop) (s : ASt) : Prop :=
  astep P dr.isNone o s fun eff s' => drawC P dr ops rest.length o eff s s' ∧ aops P (nextD dr rest.length eff s) ops (ex P ks R .normal) rest s'
def contD (P : Program) (dr : DrM) (ops : Array Oper) (rest : List Oper) (o : Oper) (eff : Bool) (s s' : ASt) (ks : List KItem) (R : Ex → ASt → Prop) : Prop :=
  drawC P dr ops rest.length o eff s s' ∧ ex P (.ops (nextD dr rest.length eff s) ops rest :: ks) R .normal s'
def contE (P : Program) (r : Option ASt) (dr : DrM) (ops : Array Oper) (rest : List Oper) (o : Oper) (eff : Bool) (s : ASt) (ks : List KItem) (R : Ex → ASt → Prop) : Prop :=
  match r with
  | some s' => contD P dr ops rest o eff s s' ks R
  | none => False
def contS (P : Program) (r : Option ASt) (dr : DrM) (ops : Array Oper) (rest : List Oper) (ks : List KItem) (R : Ex → ASt → Prop) : Prop :=
  match r with
  | some s => ex P (.ops dr ops rest :: ks) R .normal s
  | none => False
def guardE (P : Program) (v : AVal) (d : Nat) (want : Bool) (dr : DrM) (o : Oper) (ops : Array Oper) (rest : List Oper) (ks : List KItem) (R : Ex → ASt → Prop) (s : ASt) : Prop :=
  match v with
  | .flat (.bool x) => (x = want → stepE P dr o ops rest ks R (s.set d (.flat (.bool want)))) ∧ (x = !want → contS P ((s.set d (.flat (.bool !want))).put o.dst (.tup [])) dr ops rest ks R)
  | .tup [] => contS P (s.put o.dst (.tup [])) dr ops rest ks R
  | _ => False
def guardD (P : Program) (d : Option Nat) (want : Bool) (dr : DrM) (o : Oper) (ops : Array Oper) (rest : List Oper) (ks : List KItem) (R : Ex → ASt → Prop) (s : ASt) : Prop :=
  match d with
  | some d => d < s.n ∧ guardE P (s.tmp d) d want dr o ops rest ks R s
  | none => False
def guardO (P : Program) (g : Option (Nat × Bool)) (dr : DrM) (o : Oper) (ops : Array Oper) (rest : List Oper) (ks : List KItem) (R : Ex → ASt → Prop) (s : ASt) : Prop :=
  match g with
  | none => stepE P dr o ops rest ks R s
  | some (j, want) => guardD P ((ops[j]?).bind (·.dst)) want dr o ops rest ks R s
/-- a call: the values handed in, and what they read as if nothing is handed over -/
def callE (P : Program) (dr : DrM) (f : FuncId) (xs : List AVal) (as : Option (List AVal)) (b : Bool) (s : ASt) (o : Oper) (dst : Option Tmp) (ops : Array Oper) (rest : List Oper) (ks : List KItem) (R : Ex → ASt → Prop) : Prop :=
  as = snapL s xs → b = treeL xs → CallAny P dr.isNone f xs s dst fun eff s' => drawC P dr ops rest.length o eff s s' ∧ aops P (nextD dr rest.length eff s) ops (ex P ks R .normal) rest s'
def callF (P : Program) (dr : DrM) (v : AVal) (args : List AVal) (s : ASt) (o : Oper) (dst : Option Tmp) (ops : Array Oper) (rest : List Oper) (ks : List KItem) (R : Ex → ASt → Prop) : Prop :=
  match v with
  | .clo f cs => callE P dr f (args ++ cs) (snapL s (args ++ cs)) (treeL (args ++ cs)) s o dst ops rest ks R
  | .bnd f bs => callE P dr f (bs ++ args) (snapL s (bs ++ args)) (treeL (bs ++ args)) s o dst ops rest ks R
  | _ => False
def putE (P : Program) (v : Option AVal) (s : ASt) (o : Oper) (dst : Option Tmp) (dr : DrM) (ops : Array Oper) (rest : List Oper) (ks : List KItem) (R : Ex → ASt → Prop) : Prop :=
  match v with
  | some v => contE P (s.put dst v) dr ops rest o false s ks R
  | none => False
def Again {ι : Type} (I : ι → ASt) (μ : ι → Nat) (x : ι) (s : ASt) : Prop := ∃ y, Weak s (I y) ∧ μ y < μ x
def loopR (P : Program) {ι : Type} (I : ι → ASt) (μ : ι → Nat) (x : ι) (ks : List KItem) (R : Ex → ASt → Prop) : Ex → ASt → Prop
  | .normal, s => Again I μ x s
  | e, s => ex P ks R e s

section
variable {P : Program} {R : Ex → ASt → Prop} {s s' : ASt} {ks : List KItem} {dr : DrM} {ops : Array Oper} {rest : List Oper} {o : Oper} {eff : Bool}
theorem ex_nil {e : Ex} : ex P [] R e s = R e s := propext Iff.rfl
theorem ex_code_fun (c : Code) : ex P (.code c :: ks) R = thenA (awp P c (ex P ks R)) (ex P ks R) := by funext e s; rfl
theorem ex_blk_fun (id : Nat) : ex P (.blk id :: ks) R = inBlockA id (ex P ks R) := by funext e s; rfl
theorem ex_skip : ex P (.code .skip :: ks) R .normal s = ex P ks R .normal s := propext Iff.rfl
theorem ex_exit {i : Nat} : ex P (.code (.exit i) :: ks) R .normal s = ex P ks R (.exit i) s := propext Iff.rfl
theorem ex_ret : ex P (.code .ret :: ks) R .normal s = ex P ks R .ret s := propext Iff.rfl
theorem ex_seq {a b : Code} : ex P (.code (.seq a b) :: ks) R .normal s = ex P (.code a :: .code b :: ks) R .normal s := by
  show awp P a (thenA (awp P b (ex P ks R)) (ex P ks R)) s = awp P a (ex P (.code b :: ks) R) s
  rw [ex_code_fun]
theorem ex_block {id : Nat} {c : Code} : ex P (.code (.block id c) :: ks) R .normal s = ex P (.code c :: .blk id :: ks) R .normal s := by
  show awp P c (inBlockA id (ex P ks R)) s = awp P c (ex P (.blk id :: ks) R) s
  rw [ex_blk_fun]
theorem ex_region0 {id : Nat} {d : Bool} (h : s.gh.lt id = none) : ex P (.code (.region id ops d) :: ks) R .normal s = ex P (.ops (drOf d) ops ops.toList :: ks) R .normal s := by
  show awp P (.region id ops d) (ex P ks R) s = _
  simp only [awp, h]
  rfl
theorem ex_region {id : Nat} {d : Bool} {τ : Nat → AVal} {hp : Nat → Option Blk} {gn n : Nat} {g : Gh} (h : g.lt id = none) : ex P (.code (.region id ops d) :: ks) R .normal ⟨τ, hp, gn, n, g⟩ = ex P (.ops (drOf d) ops ops.toList :: ks) R .normal ⟨τ, hp, gn, n, g⟩ := ex_region0 h
theorem ex_regionG {id : Nat} {d : Bool} {l : List (Nat × AVal)} {hp : List (Nat × Blk)} {gn n : Nat} {g : Gh} (h : g.lt id = none) : ex P (.code (.region id ops d) :: ks) R .normal (mkG g l hp gn n) = ex P (.ops (drOf d) ops ops.toList :: ks) R .normal (mkG g l hp gn n) := ex_region0 h
/-- a region that draws and makes a variable -/
theorem ex_late {id ka : Nat} (h : s.gh.lt id = some ka) (hok : lateOk ops ka = true) (next : ex P (.ops (some ([], [])) (lateOps ops ka) (lateOps ops ka).toList :: .ops none (late2 ops ka).toArray (late2 ops ka) :: ks) R .normal s) (hk : ka < 1000 := by decide) : ex P (.code (.region id ops true) :: ks) R .normal s := by
  show awp P (.region id ops true) (ex P ks R) s
  simp only [awp, h, if_pos hk]
  exact ⟨trivial, hok, next⟩
/-- a region that draws, with two operations in no order -/
theorem ex_both {id ka : Nat} (h : s.gh.lt id = some ka) (next : RegOk P s (ex P ks R .normal) ops) (hk : ¬ ka < 1000 := by decide) (hk2 : ka < 2000 := by decide) : ex P (.code (.region id ops true) :: ks) R .normal s := by
  show awp P (.region id ops true) (ex P ks R) s
  simp only [awp, h, if_neg hk, if_pos hk2]
  exact ⟨trivial, next⟩
/-- ahead of a region the state may be weakened -/
theorem ex_weak {id ka : Nat} {d : Bool} {s' : ASt} (h : s.gh.lt id = some ka) (hw : Weaks s s') (next : ex P (.ops (drOf d) ops ops.toList :: ks) R .normal s') (hk : ¬ ka < 1000 := by decide) (hk2 : ¬ ka < 2000 := by decide) : ex P (.code (.region id ops d) :: ks) R .normal s := by
  show awp P (.region id ops d) (ex P ks R) s
  simp only [awp, h, if_neg hk, if_neg hk2]
  exact ⟨s', hw, next⟩
theorem rg_plain (hok : drawOk ops = true) (next : ex P (.ops (some ([], [])) ops ops.toList :: ks) R .normal s) : RegOk P s (ex P ks R .normal) ops := .plain hok next
theorem rg_late (ka : Nat) (hok : lateOk ops ka = true) (next : ex P (.ops (some ([], [])) (lateOps ops ka) (lateOps ops ka).toList :: .ops none (late2 ops ka).toArray (late2 ops ka) :: ks) R .normal s) : RegOk P s (ex P ks R .normal) ops := .late ka hok next
theorem drOf_true : drOf true = some ([], []) := id rfl
theorem drOf_false : drOf false = none := id rfl
theorem ex_cond {c : Operand} {a b : Code} : ex P (.code (.cond c a b) :: ks) R .normal s = condE P (s.eval c) a b ks R s := propext Iff.rfl
theorem condE_bool {x : Bool} {a b : Code} : condE P (.flat (.bool x)) a b ks R s = ((x = true → ex P (.code a :: ks) R .normal s) ∧ (x = false → ex P (.code b :: ks) R .normal s)) := propext Iff.rfl
theorem condE_any {a b : Code} : condE P .anyb a b ks R s = (ex P (.code a :: ks) R .normal s ∧ ex P (.code b :: ks) R .normal s) := propext Iff.rfl
theorem ex_code_exit {c : Code} {i : Nat} : ex P (.code c :: ks) R (.exit i) s = ex P ks R (.exit i) s := propext Iff.rfl
theorem ex_code_ret {c : Code} : ex P (.code c :: ks) R .ret s = ex P ks R .ret s := propext Iff.rfl
theorem ex_blk_normal {i : Nat} : ex P (.blk i :: ks) R .normal s = ex P ks R .normal s := propext Iff.rfl
theorem ex_blk_ret {i : Nat} : ex P (.blk i :: ks) R .ret s = ex P ks R .ret s := propext Iff.rfl
theorem ex_blk_exit {i j : Nat} : ex P (.blk i :: ks) R (.exit j) s = if j = i then ex P ks R .normal s else ex P ks R (.exit j) s := propext Iff.rfl
theorem ex_ops_nil : ex P (.ops dr ops [] :: ks) R .normal s = ex P ks R .normal s := propext Iff.rfl
theorem contS_eq (r : Option ASt) : contS P r dr ops rest ks R = (match r with | some s => aops P dr ops (ex P ks R .normal) rest s | none => False) := by cases r <;> rfl
theorem ex_ops : ex P (.ops dr ops (o :: rest) :: ks) R .normal s = guardO P o.guard dr o ops rest ks R s := by
  show aops P dr ops (ex P ks R .normal) (o :: rest) s = _
  simp only [aops, guardO]
  cases o.guard with
  | none => rfl
  | some p =>
    obtain ⟨j, want⟩ := p
    simp only [guardD]
    cases (ops[j]?).bind (·.dst) with
    | none => rfl
    | some d =>
      simp only [guardE, guardP]
      congr 1
      cases hv : s.tmp d with
      | flat u =>
        cases u with
        | bool x =>
          have e : x = want → s.set d (.flat (.bool want)) = s := fun h => set_same (by rw [hv, h])
          show (_ ∧ _) = (_ ∧ _)
          refine congr (congrArg And (propext (forall_congr' fun h => ?_))) rfl
          rw [e h]
          exact Iff.rfl
        | _ => rfl
      | tup l => cases l <;> rfl
      | _ => rfl
theorem guardO_none : guardO P none dr o ops rest ks R s = stepE P dr o ops rest ks R s := propext Iff.rfl
theorem guardO_some {j : Nat} {w : Bool} : guardO P (some (j, w)) dr o ops rest ks R s = guardD P ((ops[j]?).bind (·.dst)) w dr o ops rest ks R s := propext Iff.rfl
/-- the condition's value, as it stands in its temporary -/
def guardN (P : Program) (v : AVal) (d : Nat) (want : Bool) (dr : DrM) (o : Oper) (ops : Array Oper) (rest : List Oper) (ks : List KItem) (R : Ex → ASt → Prop) (s : ASt) : Prop :=
  s.tmp d = v ∧ guardE P v d want dr o ops rest ks R s
theorem guardD_some {d : Nat} {w : Bool} : guardD P (some d) w dr o ops rest ks R s = (d < s.n ∧ guardN P (s.tmp d) d w dr o ops rest ks R s) := by
  unfold guardD guardN
  simp only [true_and]
theorem guardN_run {x : Bool} {d : Nat} : guardN P (.flat (.bool x)) d x dr o ops rest ks R s = (s.tmp d = .flat (.bool x) ∧ stepE P dr o ops rest ks R s) := by
  unfold guardN
  refine propext (and_congr_right fun h => ?_)
  simp only [guardE]
  rw [set_same h]
  cases x <;> simp
theorem guardN_not {x : Bool} {d : Nat} : guardN P (.flat (.bool !x)) d x dr o ops rest ks R s = (s.tmp d = .flat (.bool !x) ∧ contS P (s.put o.dst (.tup [])) dr ops rest ks R) := by
  unfold guardN
  refine propext (and_congr_right fun h => ?_)
  simp only [guardE]
  rw [set_same h]
  cases x <;> simp
theorem guardN_tt {d : Nat} : guardN P (.flat (.bool true)) d true dr o ops rest ks R s = (s.tmp d = .flat (.bool true) ∧ stepE P dr o ops rest ks R s) := guardN_run
theorem guardN_ff {d : Nat} : guardN P (.flat (.bool false)) d false dr o ops rest ks R s = (s.tmp d = .flat (.bool false) ∧ stepE P dr o ops rest ks R s) := guardN_run
theorem guardN_ft {d : Nat} : guardN P (.flat (.bool false)) d true dr o ops rest ks R s = (s.tmp d = .flat (.bool false) ∧ contS P (s.put o.dst (.tup [])) dr ops rest ks R) := guardN_not (x := true)
theorem guardN_tf {d : Nat} : guardN P (.flat (.bool true)) d false dr o ops rest ks R s = (s.tmp d = .flat (.bool true) ∧ contS P (s.put o.dst (.tup [])) dr ops rest ks R) := guardN_not (x := false)
theorem guardN_any {v : AVal} {d : Nat} {w : Bool} : guardN P v d w dr o ops rest ks R s = (s.tmp d = v ∧ guardE P v d w dr o ops rest ks R s) := propext Iff.rfl
theorem guardN_skip {d : Nat} {w : Bool} : guardN P (.tup []) d w dr o ops rest ks R s = (s.tmp d = .tup [] ∧ guardE P (.tup []) d w dr o ops rest ks R s) := propext Iff.rfl
theorem guardN_dec {p : Prop} {i : Decidable p} {d : Nat} {w : Bool} : guardN P (.flat (.bool (@decide p i))) d w dr o ops rest ks R s = (s.tmp d = .flat (.bool (@decide p i)) ∧ guardE P (.flat (.bool (@decide p i))) d w dr o ops rest ks R s) := propext Iff.rfl
theorem guardN_neg {p : Bool} {d : Nat} {w : Bool} : guardN P (.flat (.bool !p)) d w dr o ops rest ks R s = (s.tmp d = .flat (.bool !p) ∧ guardE P (.flat (.bool !p)) d w dr o ops rest ks R s) := propext Iff.rfl
theorem guardN_beq {α : Type} {i : BEq α} {a b : α} {d : Nat} {w : Bool} : guardN P (.flat (.bool (@BEq.beq α i a b))) d w dr o ops rest ks R s = (s.tmp d = .flat (.bool (@BEq.beq α i a b)) ∧ guardE P (.flat (.bool (@BEq.beq α i a b))) d w dr o ops rest ks R s) := propext Iff.rfl
theorem guardE_bool {x w : Bool} {d : Nat} : guardE P (.flat (.bool x)) d w dr o ops rest ks R s = ((x = w → stepE P dr o ops rest ks R (s.set d (.flat (.bool w)))) ∧ (x = !w → contS P ((s.set d (.flat (.bool !w))).put o.dst (.tup [])) dr ops rest ks R)) := propext Iff.rfl
theorem guardE_skip {w : Bool} {d : Nat} : guardE P (.tup []) d w dr o ops rest ks R s = contS P (s.put o.dst (.tup [])) dr ops rest ks R := propext Iff.rfl
theorem contS_some {s : ASt} : contS P (some s) dr ops rest ks R = ex P (.ops dr ops rest :: ks) R .normal s := propext Iff.rfl
theorem contE_some : contE P (some s') dr ops rest o eff s ks R = contD P dr ops rest o eff s s' ks R := propext Iff.rfl
theorem contD_none : contD P none ops rest o eff s s' ks R = ex P (.ops none ops rest :: ks) R .normal s' := by
  unfold contD
  simp only [drawC, nextD, true_and]
theorem contD_quiet0 {H : List (Nat → Option Blk)} : contD P (some ([], H)) ops rest o false s s' ks R = ex P (.ops (some ([], H)) ops rest :: ks) R .normal s' := by
  unfold contD
  simp only [drawC, nextD, afterAll, Bool.or_true, true_or, true_and]
theorem contD_quiet {e : Nat} {E : List Nat} {H : List (Nat → Option Blk)} : contD P (some (e :: E, H)) ops rest o false s s' ks R = (((heapless o.op || afterAll ops rest.length (e :: E)) = true ∨ NoH P s o ∨ Old P H s o) ∧ ex P (.ops (some (e :: E, H)) ops rest :: ks) R .normal s') := propext Iff.rfl
theorem contD_eff {E : List Nat} {H : List (Nat → Option Blk)} : contD P (some (E, H)) ops rest o true s s' ks R = ((afterAll ops rest.length E = true ∧ (if isNew o.op then freeD s o.dst else RechL P ops rest.length E s' ops.toList 0)) ∧ ex P (.ops (some (rest.length :: E, s.heap :: H)) ops rest :: ks) R .normal s') := propext Iff.rfl
theorem freeD_some {d : Nat} : freeD s (some d) = (s.heap (s.gh.nm d) = none) := propext Iff.rfl
theorem putE_some {v : AVal} {dst : Option Tmp} : putE P (some v) s o dst dr ops rest ks R = contE P (s.put dst v) dr ops rest o false s ks R := propext Iff.rfl
def stepO (P : Program) (op : Op) (dr : DrM) (o : Oper) (ops : Array Oper) (rest : List Oper) (ks : List KItem) (R : Ex → ASt → Prop) (s : ASt) : Prop :=
  match op with
  | .call ⟨.value f, args, _⟩ => callF P dr (s.eval f) (args.toList.map s.eval) s o o.dst ops rest ks R
  | _ => if isEff o then (if isFz s o then putE P (afroz P s o) s o o.dst dr ops rest ks R else contE P (aeff P s o) dr ops rest o true s ks R) else putE P (avalue P s o) s o o.dst dr ops rest ks R
theorem stepE_op : stepE P dr o ops rest ks R s = stepO P o.op dr o ops rest ks R s := by
  have other : (if isEff o then (if isFz s o then (match afroz P s o with
        | some v => (match s.put o.dst v with | some s' => (drawC P dr ops rest.length o false s s' ∧ aops P (nextD dr rest.length false s) ops (ex P ks R .normal) rest s') | none => False)
        | none => False)
      else match aeff P s o with | some s' => (drawC P dr ops rest.length o true s s' ∧ aops P (nextD dr rest.length true s) ops (ex P ks R .normal) rest s') | none => False)
      else match avalue P s o with
        | some v => (match s.put o.dst v with | some s' => (drawC P dr ops rest.length o false s s' ∧ aops P (nextD dr rest.length false s) ops (ex P ks R .normal) rest s') | none => False)
        | none => False) = (if isEff o then (if isFz s o then putE P (afroz P s o) s o o.dst dr ops rest ks R else contE P (aeff P s o) dr ops rest o true s ks R) else putE P (avalue P s o) s o o.dst dr ops rest ks R) := by
    split
    · split
      · unfold putE
        cases afroz P s o with
        | none => rfl
        | some v =>
          unfold contE
          cases s.put o.dst v <;> rfl
      · unfold contE
        cases aeff P s o <;> rfl
    · unfold putE
      cases avalue P s o with
      | none => rfl
      | some v =>
        unfold contE
        cases s.put o.dst v <;> rfl
  unfold stepE astep stepO
  generalize o.op = op
  cases op with
  | call c =>
    obtain ⟨callee, args, ats⟩ := c
    cases callee with
    | value f =>
      simp only []
      unfold callF
      cases s.eval f with
      | clo f cs =>
        simp only []
        exact propext ⟨fun h _ _ => h, fun h => h rfl rfl⟩
      | bnd f cs =>
        simp only []
        exact propext ⟨fun h _ _ => h, fun h => h rfl rfl⟩
      | _ => rfl
    | _ => exact other
  | _ => exact other
theorem stepO_call {f : Operand} {args : Array Operand} {ats : Array TypeId} : stepO P (.call ⟨.value f, args, ats⟩) dr o ops rest ks R s = callF P dr (s.eval f) (args.toList.map s.eval) s o o.dst ops rest ks R := propext Iff.rfl
theorem callF_clo {f : FuncId} {cs args : List AVal} {dst : Option Tmp} : callF P dr (.clo f cs) args s o dst ops rest ks R = callE P dr f (args ++ cs) (snapL s (args ++ cs)) (treeL (args ++ cs)) s o dst ops rest ks R := propext Iff.rfl
theorem callF_bnd {f : FuncId} {bs args : List AVal} {dst : Option Tmp} : callF P dr (.bnd f bs) args s o dst ops rest ks R = callE P dr f (bs ++ args) (snapL s (bs ++ args)) (treeL (bs ++ args)) s o dst ops rest ks R := propext Iff.rfl
theorem contE_aops {r : Option ASt} (h : contE P r dr ops rest o eff s ks R) : ∃ s', r = some s' ∧ drawC P dr ops rest.length o eff s s' ∧ aops P (nextD dr rest.length eff s) ops (ex P ks R .normal) rest s' := by
  unfold contE at h
  split at h
  · exact ⟨_, rfl, h⟩
  · exact h.elim
theorem callK {xs : List AVal} {b : Bool} {f : FuncId} {as : List AVal} {t : AVal} {dst : Option Tmp} (h : Den P f as t) (h2 : b = true ∨ t.flatT = true)
    (h3 : contE P (s.put dst t) dr ops rest o false s ks R) : callE P dr f xs (some as) b s o dst ops rest ks R := by
  intro e1 e2
  obtain ⟨s', q1, q2⟩ := contE_aops h3
  exact .inl ⟨as, e1.symm, t, h, e2 ▸ h2, s', q1, q2⟩
/-- what a call that hands memory over owes -/
def XOk (s : ASt) (xs : List AVal) (args args' : List XT) (t : XT) (ν : Nat) : Prop :=
  XVL (s.without (xnL s xs args)) s xs args ∧ (xnL s xs args).Nodup ∧ xkeepL s xs args' ∧ (xtreeL s xs args = true ∨ (xsafeL args' = true ∧ xflat t = true)) ∧ ((xupdL s.gen xs args' ++ (emb s.gen ν t).2).map (·.1)).Nodup
theorem callX {xs : List AVal} {b : Bool} {f : FuncId} {as : Option (List AVal)} {args args' : List XT} {t : XT} {dst : Option Tmp} (h : DenX P f args args' t) (h2 : XOk s xs args args' t (s.gh.nm (dst.getD 0)))
    (h3 : contE P ((s.after (xnL s xs args) (xupdL s.gen xs args' ++ (emb s.gen (s.gh.nm (dst.getD 0)) t).2)).put dst (emb s.gen (s.gh.nm (dst.getD 0)) t).1) dr ops rest o true s ks R) : callE P dr f xs as b s o dst ops rest ks R := by
  intro _ _
  obtain ⟨s', q1, q2⟩ := contE_aops h3
  obtain ⟨p1, p2, p3, p4, p5⟩ := h2
  exact .inr (.inl ⟨args, args', t, h, p1, p2, p3, p4, p5, s', q1, q2⟩)
/-- a call with one of many outcomes -/
theorem callY {xs : List AVal} {b : Bool} {f : FuncId} {as : Option (List AVal)} {ι : Type} {p : ι → Prop} {args : List XT} {args' : ι → List XT} {t : ι → XT} {dst : Option Tmp} (h : DenY P f args p args' t)
    (h2 : XVL (s.without (xnL s xs args)) s xs args ∧ (xnL s xs args).Nodup ∧ (xtreeL s xs args = true ∨ ∀ i, p i → (xsafeL (args' i) = true ∧ xflat (t i) = true)))
    (h4 : ∀ i, p i → xkeepL s xs (args' i) ∧ ((xupdL s.gen xs (args' i) ++ (emb s.gen (s.gh.nm (dst.getD 0)) (t i)).2).map (·.1)).Nodup)
    (h3 : ∀ i, p i → contE P ((s.after (xnL s xs args) (xupdL s.gen xs (args' i) ++ (emb s.gen (s.gh.nm (dst.getD 0)) (t i)).2)).put dst (emb s.gen (s.gh.nm (dst.getD 0)) (t i)).1) none ops rest o true s ks R) : callE P none f xs as b s o dst ops rest ks R := by
  intro _ _
  obtain ⟨p1, p2, p4⟩ := h2
  refine .inr (.inr ⟨rfl, ι, p, args, args', t, h, p1, p2, p4, fun i hi => ?_⟩)
  obtain ⟨p3, p5⟩ := h4 i hi
  obtain ⟨s', q1, q2⟩ := contE_aops (h3 i hi)
  exact ⟨p3, p5, s', q1, q2⟩
theorem ex_start {c : Code} {Q : Ex → ASt → Prop} {s : ASt} (h : ex P [.code c] Q .normal s) : awp P c Q s := by
  have e : ex P [] Q = Q := by
    funext e s
    cases e <;> rfl
  have e2 : ex P [.code c] Q .normal s = awp P c (ex P [] Q) s := rfl
  rw [e2, e] at h
  exact h
theorem ex_loop {c : Code} {ι : Type} (I : ι → ASt) (μ : ι → Nat) (x : ι) (h0 : Weak s (I x)) (h : ∀ x, ex P [.code c] (loopR P I μ x ks R) .normal (I x)) : ex P (.code (.loop c) :: ks) R .normal s := by
  refine ⟨ι, I, μ, x, ex P ks R, fun e s h => ⟨s, .refl s, h⟩, h0, fun x => ?_⟩
  have := h x
  have e : ex P [] (loopR P I μ x ks R) = thenA (fun s' => ∃ y, Weak s' (I y) ∧ μ y < μ x) (ex P ks R) := by
    funext e s
    cases e <;> rfl
  have e2 : ex P [.code c] (loopR P I μ x ks R) .normal (I x) = awp P c (ex P [] (loopR P I μ x ks R)) (I x) := rfl
  rw [e2, e] at this
  exact this
/-- the same, with weakening behind the loop -/
def loopV (P : Program) (ks : List KItem) (R : Ex → ASt → Prop) (e : Ex) (s : ASt) : Prop := ∃ s', Weaks s s' ∧ ex P ks R e s'
def loopW (P : Program) {ι : Type} (I : ι → ASt) (μ : ι → Nat) (x : ι) (ks : List KItem) (R : Ex → ASt → Prop) : Ex → ASt → Prop
  | .normal, s => Again I μ x s
  | e, s => loopV P ks R e s
theorem ex_loopW {c : Code} {ι : Type} (I : ι → ASt) (μ : ι → Nat) (x : ι) (h0 : Weak s (I x)) (h : ∀ x, ex P [.code c] (loopW P I μ x ks R) .normal (I x)) : ex P (.code (.loop c) :: ks) R .normal s := by
  refine ⟨ι, I, μ, x, loopV P ks R, fun e s h => h, h0, fun x => ?_⟩
  have := h x
  have e : ex P [] (loopW P I μ x ks R) = thenA (fun s' => ∃ y, Weak s' (I y) ∧ μ y < μ x) (loopV P ks R) := by
    funext e s
    cases e <;> rfl
  have e2 : ex P [.code c] (loopW P I μ x ks R) .normal (I x) = awp P c (ex P [] (loopW P I μ x ks R)) (I x) := rfl
  rw [e2, e] at this
  exact this
theorem loopW_normal {ι : Type} {I : ι → ASt} {μ : ι → Nat} {x : ι} : loopW P I μ x ks R .normal s = Again I μ x s := propext Iff.rfl
theorem loopW_exit {ι : Type} {I : ι → ASt} {μ : ι → Nat} {x : ι} {i : Nat} : loopW P I μ x ks R (.exit i) s = loopV P ks R (.exit i) s := propext Iff.rfl
theorem loopW_ret {ι : Type} {I : ι → ASt} {μ : ι → Nat} {x : ι} : loopW P I μ x ks R .ret s = loopV P ks R .ret s := propext Iff.rfl
theorem loopV_refl {e : Ex} (h : ex P ks R e s) : loopV P ks R e s := ⟨s, .refl s, h⟩
theorem loopR_normal {ι : Type} {I : ι → ASt} {μ : ι → Nat} {x : ι} : loopR P I μ x ks R .normal s = Again I μ x s := propext Iff.rfl
theorem loopR_exit {ι : Type} {I : ι → ASt} {μ : ι → Nat} {x : ι} {i : Nat} : loopR P I μ x ks R (.exit i) s = ex P ks R (.exit i) s := propext Iff.rfl
theorem loopR_ret {ι : Type} {I : ι → ASt} {μ : ι → Nat} {x : ι} : loopR P I μ x ks R .ret s = ex P ks R .ret s := propext Iff.rfl
theorem apost_ret {fn : Func} {t : AVal} : apost P fn t .ret s = ∃ r, ares P s fn.results.toList = some r ∧ snap 6 s (one r) = some t := propext Iff.rfl
theorem apostX_ret {fn : Func} {as : List AVal} {args' : List XT} {t : XT} : apostX P fn as args' t .ret s = ∃ r, ares P s fn.results.toList = some r ∧ XPost s as args' (one r) t := propext Iff.rfl
theorem apostX_normal {fn : Func} {as : List AVal} {args' : List XT} {t : XT} : apostX P fn as args' t .normal s = ∃ r, ares P s fn.results.toList = some r ∧ XPost s as args' (one r) t := rfl
theorem apost_normal {fn : Func} {t : AVal} : apost P fn t .normal s = ∃ r, ares P s fn.results.toList = some r ∧ snap 6 s (one r) = some t := propext Iff.rfl
end

section
variable (s : ASt) (k : Nat)
theorem snap_flat (v : Value) : snap (k + 1) s (.flat v) = some (.flat v) := rfl
theorem snap_lst (cells : List AVal) (n : Nat) : snap (k + 1) s (.lst cells n) = if treeL cells then some (.lst cells n) else none := rfl
theorem snap_iptr (cells : List AVal) (n : Nat) : snap (k + 1) s (.iptr cells n) = if treeL cells then some (.iptr cells n) else none := rfl
theorem snap_nl : snap (k + 1) s .nl = some (.lst [] 0) := rfl
def mapO (f : AVal → Option AVal) : List AVal → Option (List AVal)
  | [] => some []
  | a :: r => match f a, mapO f r with
    | some x, some l => some (x :: l)
    | _, _ => none
theorem mapM_mapO (f : AVal → Option AVal) : ∀ l : List AVal, l.mapM f = mapO f l
  | [] => rfl
  | a :: r => by
    rw [List.mapM_cons, mapM_mapO f r, mapO]
    cases f a <;> cases mapO f r <;> rfl
theorem snap_agg (cs : List AVal) : snap (k + 1) s (.agg cs) = match mapO (snap k s) cs with | some l => some (.agg l) | none => none := by
  rw [← mapM_mapO]; rfl
theorem snap_tup (cs : List AVal) : snap (k + 1) s (.tup cs) = match mapO (snap k s) cs with | some l => some (.tup l) | none => none := by
  rw [← mapM_mapO]; rfl
theorem snap_clo (f : FuncId) (cs : List AVal) : snap (k + 1) s (.clo f cs) = match mapO (snap k s) cs with | some l => some (.clo f l) | none => none := by
  rw [← mapM_mapO]; rfl
theorem snap_bnd (f : FuncId) (cs : List AVal) : snap (k + 1) s (.bnd f cs) = match mapO (snap k s) cs with | some l => some (.bnd f l) | none => none := by
  rw [← mapM_mapO]; rfl
theorem snap_ptr (β g off : Nat) : snap (k + 1) s (.ptr β g off) = match blkOf s β g with
      | some blk => (if treeL blk.cells then some (.iptr blk.cells off)
           else match mapO (snap k s) blk.cells with
            | some l => some (.iptr l off)
            | none => none)
      | none => none := by
  have e : snap k s = fun x => snap k s x := rfl
  simp only [← mapM_mapO]; rfl
theorem snap_own (β g off n : Nat) : snap (k + 1) s (.own β g off n) = match blkOf s β g with
      | some blk => if off + n * blk.size ≤ blk.cells.length then
          (if treeL ((blk.cells.drop off).take (n * blk.size)) then some (.lst ((blk.cells.drop off).take (n * blk.size)) n)
           else match mapO (snap k s) ((blk.cells.drop off).take (n * blk.size)) with
            | some l => some (.lst l n)
            | none => none)
          else none
      | none => none := by
  simp only [← mapM_mapO]; rfl
theorem one_1 (a : AVal) : one [a] = a := rfl
theorem one_2 (a b : AVal) : one [a, b] = .tup [a, b] := rfl
theorem one_3 (a b c : AVal) : one [a, b, c] = .tup [a, b, c] := rfl
theorem one_4 (a b c d : AVal) : one [a, b, c, d] = .tup [a, b, c, d] := rfl
end

theorem upd_apply {α : Type} (f : Nat → α) (k t : Nat) (v : α) : upd f k v t = if t = k then v else f t := rfl

/-! ### forgetting -/
def wkT (s s' : ASt) : List (Nat × AVal) → Prop
  | [] => True
  | (k, v) :: r => WV s s' (s.tmp k) v ∧ wkT s s' r
def wkB (s s' : ASt) (g : Nat) : Option Blk → Blk → Prop
  | some b0, b => b.gen = b0.gen ∧ b.size = b0.size ∧ (b.cells = b0.cells ∨ WVL s s' b0.cells b.cells)
  | none, b => b.cells = [] ∧ s.gen ≤ b.gen ∧ b.gen < g
def wkH (s s' : ASt) (g : Nat) : List (Nat × Blk) → Prop
  | [] => True
  | (k, b) :: r => wkB s s' g (s.heap k) b ∧ wkH s s' g r
theorem WVL_refl (s s' : ASt) : ∀ l, WVL s s' l l
  | [] => trivial
  | _v :: l => ⟨.inl rfl, WVL_refl s s' l⟩
theorem WV_refl (s s' : ASt) (v : AVal) : WV s s' v v := .inl rfl
theorem WV_i (s s' : ASt) {a b : Int} (h : a = b) : WV s s' (.flat (.int .i64 a)) (.flat (.int .i64 b)) := .inl (by rw [h])
theorem WV_dead (s s' : ASt) (v : AVal) : WV s s' v .dead := .inr (.inl rfl)
theorem WV_refl' (s s' : ASt) (v : AVal) : WV s s' v v = True := eq_true (.inl rfl)
theorem weak_mk {gh : Gh} {s : ASt} {l : List (Nat × AVal)} {h : List (Nat × Blk)} {g n : Nat} (hn : n = s.n) (hg : s.gen ≤ g) (ht : wkT s (mkG gh l h g n) l) (hh : wkH s (mkG gh l h g n) g h) : Weak s (mkG gh l h g n) := by
  refine ⟨hn, hg, fun t => ?_, fun β blk hβ => ?_⟩
  · have key : ∀ l', wkT s (mkG gh l h g n) l' → WV s (mkG gh l h g n) (s.tmp t) (lookupA l' t) := by
      intro l'
      induction l' with
      | nil => intro _; exact .inr (.inl rfl)
      | cons p r ih =>
        intro hw
        obtain ⟨k, v⟩ := p
        simp only [lookupA]
        split
        · rename_i e; subst e; exact hw.1
        · exact ih hw.2
    exact key l ht
  · have key : ∀ h', wkH s (mkG gh l h g n) g h' → ∀ blk, lookupH h' β = some blk → (∃ blk0, s.heap β = some blk0 ∧ blk.gen = blk0.gen ∧ blk.size = blk0.size ∧ WVL s (mkG gh l h g n) blk0.cells blk.cells) ∨ (s.heap β = none ∧ blk.cells = [] ∧ s.gen ≤ blk.gen ∧ blk.gen < g) := by
      intro h'
      induction h' with
      | nil => intro _ blk hb; simp [lookupH] at hb
      | cons p r ih =>
        intro hw blk hb
        obtain ⟨k, v⟩ := p
        simp only [lookupH] at hb
        split at hb
        · rename_i e
          subst e
          simp only [Option.some.injEq] at hb
          subst hb
          have h1 := hw.1
          cases hk : s.heap β with
          | none =>
            rw [hk] at h1
            exact .inr ⟨rfl, h1⟩
          | some b0 =>
            rw [hk] at h1
            obtain ⟨q1, q2, q3⟩ := h1
            refine .inl ⟨b0, rfl, q1, q2, ?_⟩
            rcases q3 with q3 | q3
            · rw [q3]; exact WVL_refl _ _ _
            · exact q3
        · exact ih hw.2 blk hb
    exact key h hh blk hβ
/-- the temporaries, sixteen to a row -/
def getB : List (Nat → AVal) → Nat → Nat → AVal
  | [], _, _ => .dead
  | f :: _, 0, t => f t
  | _ :: l, i + 1, t => getB l i t
def modB : List (Nat → AVal) → Nat → Nat → AVal → List (Nat → AVal)
  | [], _, _, _ => []
  | f :: l, 0, k, v => upd f k v :: l
  | f :: l, i + 1, k, v => f :: modB l i k v
def bk (l : List (Nat → AVal)) (t : Nat) : AVal := getB l (t / 16) t
theorem bk_at {l : List (Nat → AVal)} {t : Nat} : bk l t = getB l (t / 16) t := rfl
theorem getB_zero {f : Nat → AVal} {l : List (Nat → AVal)} {t : Nat} : getB (f :: l) 0 t = f t := rfl
theorem getB_succ {f : Nat → AVal} {l : List (Nat → AVal)} {i t : Nat} : getB (f :: l) (i + 1) t = getB l i t := rfl
theorem modB_zero {f : Nat → AVal} {l : List (Nat → AVal)} {k : Nat} {v : AVal} : modB (f :: l) 0 k v = upd f k v :: l := rfl
theorem modB_succ {f : Nat → AVal} {l : List (Nat → AVal)} {i k : Nat} {v : AVal} : modB (f :: l) (i + 1) k v = f :: modB l i k v := rfl
theorem getB_modB (v : AVal) : ∀ (l : List (Nat → AVal)) (i j k t : Nat), i < l.length → (t = k → i = j) → getB (modB l i k v) j t = if t = k then v else getB l j t
  | [], i, j, k, t, h, _ => by simp at h
  | f :: l, 0, 0, k, t, _, _ => rfl
  | f :: l, 0, j + 1, k, t, _, hij => by
    have : ¬ t = k := fun e => by have := hij e; omega
    simp [modB, getB, this]
  | f :: l, i + 1, 0, k, t, _, hij => by
    have : ¬ t = k := fun e => by have := hij e; omega
    simp [modB, getB, this]
  | f :: l, i + 1, j + 1, k, t, h, hij => by
    simp only [modB, getB]
    exact getB_modB v l i j k t (by simpa using h) fun e => by have := hij e; omega
theorem upd_bk {l : List (Nat → AVal)} {k : Nat} {v : AVal} (h : k / 16 < l.length) : upd (bk l) k v = bk (modB l (k / 16) k v) := by
  funext t
  simp only [upd, bk]
  rw [getB_modB v l _ _ k t h (fun e => by rw [e])]
def repB (f : Nat → AVal) : Nat → List (Nat → AVal)
  | 0 => []
  | n + 1 => f :: repB f n
theorem repB_zero {f : Nat → AVal} : repB f 0 = [] := rfl
theorem repB_succ {f : Nat → AVal} {n : Nat} : repB f (n + 1) = f :: repB f n := rfl
theorem getB_rep (f : Nat → AVal) (t : Nat) : ∀ n i, i < n → getB (repB f n) i t = f t
  | 0, i, h => by omega
  | n + 1, 0, _ => rfl
  | n + 1, i + 1, h => by
    show getB (repB f n) i t = f t
    exact getB_rep f t n i (by omega)
/-- rows enough for n temporaries; what lies above is forgotten -/
def rowsB (f : Nat → AVal) (n : Nat) : List (Nat → AVal) := repB f (n / 16 + 1)
theorem bk_rows (f : Nat → AVal) (n : Nat) (h : ∀ t, n < t → f t = .dead) : bk (rowsB f n) = f := by
  funext t
  unfold bk rowsB
  by_cases ht : t / 16 < n / 16 + 1
  · exact getB_rep f t _ _ ht
  · rw [h t (by omega)]
    have : ∀ m i, m ≤ i → getB (repB f m) i t = .dead := by
      intro m
      induction m with
      | zero => intro i _; rfl
      | succ m ih =>
        intro i hi
        cases i with
        | zero => omega
        | succ i => exact ih i (by omega)
    exact this _ _ (by omega)
theorem rows_lit {f : Nat → AVal} {n : Nat} : rowsB f n = repB f (n / 16 + 1) := rfl
def tops : List (Nat × AVal) → Nat → Bool
  | [], _ => true
  | (k, _) :: r, n => decide (k ≤ n) && tops r n
theorem lookup_top : ∀ (l : List (Nat × AVal)) (n : Nat), tops l n = true → ∀ t, n < t → lookupA l t = .dead
  | [], _, _, _, _ => rfl
  | (k, v) :: r, n, h, t, ht => by
    simp only [tops, Bool.and_eq_true, decide_eq_true_eq] at h
    simp only [lookupA]
    rw [if_neg (by omega)]
    exact lookup_top r n h.2 t ht
theorem mk_tmp {gh l h g n} (ht : tops l n = true) : (mkG gh l h g n).tmp = bk (rowsB (lookupA l) n) := (bk_rows _ _ (lookup_top l n ht)).symm
theorem init_two {n : Nat} {args : List AVal} (h : args.length ≤ n) : init n args = ⟨bk (rowsB (fun t => args.getD t .dead) n), fun _ => none, 0, n, gh0⟩ := by
  rw [bk_rows _ _ fun t ht => by simp [List.getD, List.getElem?_eq_none (show args.length ≤ t by omega)]]
  rfl
theorem upd_upd_same {α : Type} (f : Nat → α) (k : Nat) (v w : α) : upd (upd f k v) k w = upd f k w := by
  funext t
  unfold upd
  split <;> rfl
theorem mk_heap (gh l h g n) : (mkG gh l h g n).heap = lookupH h := rfl
theorem mk_gh (gh l h g n) : (mkG gh l h g n).gh = gh := rfl
theorem gh0_nm (d : Nat) : gh0.nm d = d := rfl
def lkN : List (Nat × Nat) → Nat → Nat
  | [], d => d
  | (k, v) :: r, d => if d = k then v else lkN r d
/-- ghosts, told by lists: new names, and what is never written -/
def ghs (names : List (Nat × Nat)) (fz : List Nat) : Gh := ⟨lkN names, fun d => decide (d ∈ fz), fun _ => none⟩
def lkO : List (Nat × Nat) → Nat → Option Nat
  | [], _ => none
  | (k, v) :: r, d => if d = k then some v else lkO r d
/-- .. and regions (with the place of the making of a variable) that go on as if it were made last -/
def ghl (names : List (Nat × Nat)) (fz : List Nat) (lts : List (Nat × Nat)) : Gh := ⟨lkN names, fun d => decide (d ∈ fz), lkO lts⟩
theorem ghl_nm {a c : List (Nat × Nat)} {b : List Nat} {d : Nat} : (ghl a b c).nm d = lkN a d := rfl
theorem ghl_fz {a c : List (Nat × Nat)} {b : List Nat} {d : Nat} : (ghl a b c).fz d = decide (d ∈ b) := rfl
theorem ghl_lt {a c : List (Nat × Nat)} {b : List Nat} {d : Nat} : (ghl a b c).lt d = lkO c d := rfl
theorem ghs_lt {a : List (Nat × Nat)} {b : List Nat} {d : Nat} : (ghs a b).lt d = none := rfl
theorem gh0_lt (d : Nat) : gh0.lt d = none := rfl
theorem lkO_nil {d : Nat} : lkO [] d = none := rfl
theorem lkO_cons {k v d : Nat} {r : List (Nat × Nat)} : lkO ((k, v) :: r) d = if d = k then some v else lkO r d := rfl
theorem ghs_nm {a : List (Nat × Nat)} {b : List Nat} {d : Nat} : (ghs a b).nm d = lkN a d := rfl
theorem ghs_fz {a : List (Nat × Nat)} {b : List Nat} {d : Nat} : (ghs a b).fz d = decide (d ∈ b) := rfl
theorem lkN_nil {d : Nat} : lkN [] d = d := rfl
theorem lkN_cons {k v d : Nat} {r : List (Nat × Nat)} : lkN ((k, v) :: r) d = if d = k then v else lkN r d := rfl
theorem gh0_fz (d : Nat) : gh0.fz d = false := rfl
theorem mk_gen (gh l h g n) : (mkG gh l h g n).gen = g := rfl
theorem mk_n (gh l h g n) : (mkG gh l h g n).n = n := rfl

/-! ### scalars -/
section
variable (P : Program) (t : TypeId) (x y : Operand) (k : IntKind) (a b : Int)
theorem sem_add : semS P (do eqGuard .add t x y (.int k a) (.int k b); binOp .add t (.int k a) (.int k b)) = some (.flat (.int k (k.wrap (a + b)))) := by cases k <;> rfl
theorem sem_sub : semS P (do eqGuard .sub t x y (.int k a) (.int k b); binOp .sub t (.int k a) (.int k b)) = some (.flat (.int k (k.wrap (a - b)))) := by cases k <;> rfl
theorem sem_mul : semS P (do eqGuard .mul t x y (.int k a) (.int k b); binOp .mul t (.int k a) (.int k b)) = some (.flat (.int k (k.wrap (a * b)))) := by cases k <;> rfl
theorem sem_lss : semS P (do eqGuard .lss t x y (.int k a) (.int k b); binOp .lss t (.int k a) (.int k b)) = some (.flat (.bool (decide (a < b)))) := by cases k <;> rfl
theorem sem_leq : semS P (do eqGuard .leq t x y (.int k a) (.int k b); binOp .leq t (.int k a) (.int k b)) = some (.flat (.bool (decide (a ≤ b)))) := by cases k <;> rfl
theorem sem_gtr : semS P (do eqGuard .gtr t x y (.int k a) (.int k b); binOp .gtr t (.int k a) (.int k b)) = some (.flat (.bool (decide (b < a)))) := by cases k <;> rfl
theorem sem_geq : semS P (do eqGuard .geq t x y (.int k a) (.int k b); binOp .geq t (.int k a) (.int k b)) = some (.flat (.bool (decide (b ≤ a)))) := by cases k <;> rfl
theorem sem_eql : semS P (do eqGuard .eql t x y (.int k a) (.int k b); binOp .eql t (.int k a) (.int k b)) = some (.flat (.bool (decide (a = b)))) := by
  have : (decide (a = b)) = (a == b) := by rw [Bool.eq_iff_iff]; simp
  rw [this]; cases k <;> rfl
theorem sem_neq : semS P (do eqGuard .neq t x y (.int k a) (.int k b); binOp .neq t (.int k a) (.int k b)) = some (.flat (.bool (!decide (a = b)))) := by
  have : (!decide (a = b)) = (a != b) := by rw [Bool.eq_iff_iff]; simp
  rw [this]; cases k <;> rfl
theorem sem_not (v : Bool) : semS P (Op.unary .not (.bool v)) = some (.flat (.bool !v)) := rfl
theorem sem_neg : semS P (Op.unary .neg (.int k a)) = some (.flat (.int k (k.wrap (0 - a)))) := by cases k <;> rfl
theorem semv_bind {α β : Type} (x : Sem α) (f : α → Sem β) : semv P (x >>= f) = match semv P x with | some a => semv P (f a) | none => none := by
  induction x with
  | pure a => rfl
  | program k ih => exact ih P
  | _ => rfl
theorem equalIn_bool (p q : Bool) {t : TypeId} (h : P.underlying t = some .bool) (d : Nat) : semv P (Op.equalIn (d + 1) t (.bool p) (.bool q)) = some (p == q) := by
  unfold Op.equalIn
  rw [semv_bind]
  have : semv P (underlying t) = some .bool := by
    simp only [underlying, semv_bind, program, semv, h]
    rfl
  simp only [this]
  rfl
theorem sem_eqb (p q : Bool) {t : TypeId} (h : P.underlying t = some .bool) : semS P (do eqGuard .eql t x y (.bool p) (.bool q); binOp .eql t (.bool p) (.bool q)) = some (.flat (.bool (p == q))) := by
  have e : (do eqGuard .eql t x y (.bool p) (.bool q); binOp .eql t (.bool p) (.bool q) : Sem Value) = (Op.equalIn 10000 t (.bool p) (.bool q) >>= fun r => pure (.bool r)) := rfl
  rw [e, semS, semv_bind, equalIn_bool P p q h 9999]
  rfl
theorem sem_neb (p q : Bool) {t : TypeId} (h : P.underlying t = some .bool) : semS P (do eqGuard .neq t x y (.bool p) (.bool q); binOp .neq t (.bool p) (.bool q)) = some (.flat (.bool (!(p == q)))) := by
  have e : (do eqGuard .neq t x y (.bool p) (.bool q); binOp .neq t (.bool p) (.bool q) : Sem Value) = (Op.equalIn 10000 t (.bool p) (.bool q) >>= fun r => pure (.bool (!r))) := rfl
  rw [e, semS, semv_bind, equalIn_bool P p q h 9999]
  rfl
end
theorem wrap64 {a : Int} (h1 : -9223372036854775808 ≤ a) (h2 : a ≤ 9223372036854775807) : IntKind.i64.wrap a = a := IntWalk.i64_in a ⟨h1, h2⟩

/-- cells that hold one value each -/
def mapC {α β : Type} (f : α → β) (l : List α) : List β := l.map f
abbrev lstC {α : Type} (f : α → AVal) (l : List α) : AVal := .lst (mapC f l) l.length
abbrev ints (l : List Int) : AVal := lstC AVal.i l
abbrev intss (l : List (List Int)) : AVal := lstC ints l
section
variable {α : Type} (f : α → AVal) (l : List α)
theorem len_mapC : (mapC f l).length = l.length := List.length_map ..
theorem get_mapC (k : Nat) (h : k < l.length) : (mapC f l)[k]? = some (f l[k]) := by simp [mapC, h]
theorem mapC_nil : mapC f [] = [] := rfl
theorem mapC_append (a b : List α) : mapC f (a ++ b) = mapC f a ++ mapC f b := List.map_append ..
theorem mapC_snoc (x : α) : mapC f l ++ [f x] = mapC f (l ++ [x]) := by simp [mapC]
theorem mapC_take (k : Nat) : (mapC f l).take k = mapC f (l.take k) := by simp [mapC, List.map_take]
theorem mapC_drop (k : Nat) : (mapC f l).drop k = mapC f (l.drop k) := by simp [mapC, List.map_drop]
theorem treeL_mapC (h : ∀ x, (f x).tree = true) : treeL (mapC f l) = true := treeL_map f l h
theorem lensL_mapC : lensL (mapC f l) ↔ ∀ x ∈ l, lens (f x) := by simp [mapC, lensL_iff]
theorem mapC_replicate (n : Nat) (x : α) : List.replicate n (f x) = mapC f (List.replicate n x) := by simp [mapC]
theorem mapC_set (k : Nat) (x : α) (h : k < l.length) : lay (mapC f l) k [f x] = mapC f (l.set k x) := by
  unfold lay mapC
  rw [List.map_set, List.set_eq_take_append_cons_drop, if_pos (by simpa using h)]
  simp
end
theorem tree_i (n : Int) : (AVal.i n).tree = true := rfl
theorem treeL_i (l : List Int) : treeL (mapC AVal.i l) = true := treeL_mapC _ _ fun _ => rfl
theorem tree_ints (l : List Int) : (ints l).tree = true := by simp only [ints, lstC, AVal.tree, treeL_i]
theorem treeL_ints (l : List (List Int)) : treeL (mapC ints l) = true := treeL_mapC _ _ tree_ints
abbrev AVal.u8 (n : Int) : AVal := .flat (.int .u8 n)
abbrev AVal.u64 (n : Int) : AVal := .flat (.int .u64 n)
abbrev bytesV (l : List Int) : AVal := lstC AVal.u8 l
theorem treeL_u8 (l : List Int) : treeL (mapC AVal.u8 l) = true := treeL_mapC _ _ fun _ => rfl
theorem lensL_i (l : List Int) : lensL (mapC AVal.i l) = True := by simp [lensL_mapC, lens]
theorem flatten1 (n : Nat) (x : AVal) : (List.replicate n [x]).flatten = List.replicate n x := by
  induction n with
  | zero => rfl
  | succ n ih => simp [List.replicate_succ, ih]
theorem rep_i (n : Nat) (x : Int) : List.replicate n (AVal.flat (.int .i64 x)) = mapC AVal.i (List.replicate n x) := by simp [mapC]
theorem set_fill {α : Type} (xs : List α) (z : α) (k : Nat) (h : k < xs.length) : (xs.take k ++ List.replicate (xs.length - k) z).set k xs[k] = xs.take (k + 1) ++ List.replicate (xs.length - (k + 1)) z := by
  have hk : (xs.take k).length = k := by simp; omega
  rw [List.set_append_right _ _ (by omega), hk, Nat.sub_self, show xs.length - k = (xs.length - (k + 1)) + 1 by omega, List.replicate_succ, List.set_cons_zero, List.take_succ_eq_append_getElem h, List.append_assoc]
  rfl
theorem lay_nil (cs : List AVal) : lay cs 0 [] = cs := by simp [lay]
theorem lay_zero (c v : AVal) (cs vs : List AVal) : lay (c :: cs) 0 (v :: vs) = v :: lay cs 0 vs := by simp [lay]
theorem lay_succ (c : AVal) (cs vs : List AVal) (k : Nat) : lay (c :: cs) (k + 1) vs = c :: lay cs k vs := by simp [lay, Nat.add_right_comm]
theorem mapC_set' {α : Type} (f : α → AVal) (l : List α) (k : Nat) (x : α) : k < l.length → (mapC f l).take k ++ [f x] ++ (mapC f l).drop (k + 1) = mapC f (l.set k x) := fun h => mapC_set f l k x h
/-- a row that is filled from its head -/
def fillC {α : Type} (f : α → AVal) (z : AVal) (l : List α) (k : Nat) : List AVal := mapC f (l.take k) ++ List.replicate (l.length - k) z
section
variable {α : Type} (f : α → AVal) (z : AVal) (l : List α)
theorem len_fillC (k : Nat) (h : k ≤ l.length) : (fillC f z l k).length = l.length := by simp [fillC, mapC]; omega
theorem fillC_zero : fillC f z l 0 = List.replicate l.length z := by simp [fillC, mapC]
theorem fillC_all : fillC f z l l.length = mapC f l := by simp [fillC, mapC]
theorem lay_fillC (k : Nat) (h : k < l.length) : lay (fillC f z l k) k [f l[k]] = fillC f z l (k + 1) := by
  have h1 : (mapC f (l.take k)).length = k := by simp [mapC]; omega
  unfold lay fillC
  have e : l.length - k = (l.length - (k + 1)) + 1 := by omega
  rw [e, List.replicate_succ]
  have t1 : (mapC f (l.take k) ++ z :: List.replicate (l.length - (k + 1)) z).take k = mapC f (l.take k) := by
    rw [List.take_append_of_le_length (by omega), List.take_of_length_le (by omega)]
  have t2 : (mapC f (l.take k) ++ z :: List.replicate (l.length - (k + 1)) z).drop (k + [f l[k]].length) = List.replicate (l.length - (k + 1)) z := by
    rw [List.drop_append, List.drop_of_length_le (by simp; omega), h1]
    simp
  rw [t1, t2, List.take_succ_eq_append_getElem h, mapC_append]
  rfl
theorem get_fillC (k : Nat) (h : k < l.length) (j : Nat) (hj : j < k) : (fillC f z l k)[j]? = some (f (l[j]'(by omega))) := by
  have : j < (mapC f (l.take k)).length := by simp [mapC]; omega
  simp only [fillC]
  rw [List.getElem?_append_left this]
  have hj' : j < l.length := by omega
  simp [mapC, hj, List.getElem?_eq_getElem hj']
end
/-- what is left of a size -/
def sz (l t : Int) : Int := if l - t < 0 then -1 else l - t
theorem sz_neg {l t : Int} : sz l t < 0 ↔ l < t := by unfold sz; split <;> omega
theorem sz_sz {l t u : Int} (h : ¬ sz l t < 0) : sz (sz l t) u = sz l (t + u) := by
  have h' : ¬ l < t := fun e => h (sz_neg.2 e)
  have e : sz l t = l - t := by unfold sz; rw [if_neg (by omega)]
  rw [e]
  unfold sz
  rw [show l - t - u = l - (t + u) by omega]
theorem sz_val {l t : Int} (h : ¬ l < t) : sz l t = l - t := by unfold sz; rw [if_neg (by omega)]
theorem sz_lt {l t : Int} (h : l < t) : sz l t = -1 := by unfold sz; rw [if_pos (by omega)]
theorem len_replicate {α : Type} (n : Nat) (x : α) : (List.replicate n x).length = n := List.length_replicate
/-- a proposition's bool -/
noncomputable def bp (p : Prop) : Bool := @decide p (Classical.propDecidable p)
theorem bp_true {p : Prop} : (bp p = true) = p := by unfold bp; simp
theorem bp_false {p : Prop} : (bp p = false) = ¬ p := by unfold bp; simp
theorem true_bp {p : Prop} : (true = bp p) = p := by rw [show (true = bp p) = (bp p = true) from propext eq_comm, bp_true]
theorem false_bp {p : Prop} : (false = bp p) = ¬ p := by rw [show (false = bp p) = (bp p = false) from propext eq_comm, bp_false]
theorem bp_congr {p q : Prop} (h : p ↔ q) : bp p = bp q := by rw [propext h]
theorem bp_decide (p : Prop) [Decidable p] : bp p = decide p := by unfold bp; congr
theorem guardN_bp {p : Prop} {d : Nat} {w : Bool} {P : Program} {dr : DrM} {o : Oper} {ops : Array Oper} {rest : List Oper} {ks : List KItem} {R : Ex → ASt → Prop} {s : ASt} :
    guardN P (.flat (.bool (bp p))) d w dr o ops rest ks R s = (s.tmp d = .flat (.bool (bp p)) ∧ guardE P (.flat (.bool (bp p))) d w dr o ops rest ks R s) := propext Iff.rfl
theorem not_bp (p : Prop) : (!bp p) = bp (¬ p) := by
  cases h : bp p
  · rw [bp_false] at h; simp [bp_true, true_bp, h]
  · rw [bp_true] at h; simp [false_bp, h]

/-! ### words for memory that is handed over -/
def updN (h : Nat → Option Blk) : List Nat → Nat → Option Blk
  | [] => h
  | β :: N => upd (updN h N) β none
def updU (h : Nat → Option Blk) : List (Nat × Blk) → Nat → Option Blk
  | [] => h
  | p :: U => upd (updU h U) p.1 (some p.2)
theorem after_eq (s : ASt) (N : List Nat) (U : List (Nat × Blk)) : s.after N U = ⟨s.tmp, updU (updN s.heap N) U, s.gen + 1, s.n, s.gh⟩ := by
  have hN : ∀ N : List Nat, updN s.heap N = fun β => if β ∈ N then none else s.heap β := by
    intro N
    induction N with
    | nil => funext β; simp [updN]
    | cons x N ih =>
      funext β
      simp only [updN, upd, ih, List.mem_cons]
      by_cases e : β = x
      · simp [e]
      · simp [e]
  have hU : ∀ (h : Nat → Option Blk) (U : List (Nat × Blk)), updU h U = fun β => match lookupU U β with | some blk => some blk | none => h β := by
    intro h U
    induction U with
    | nil => funext β; simp [updU, lookupU]
    | cons p U ih =>
      funext β
      obtain ⟨k, v⟩ := p
      simp only [updU, upd, ih, lookupU]
      by_cases e : β = k
      · simp [e]
      · simp [e]
  unfold ASt.after
  rw [hU, hN]
  rfl
theorem without_eq (s : ASt) (N : List Nat) : s.without N = ⟨s.tmp, updN s.heap N, s.gen, s.n, s.gh⟩ := by
  have hN : ∀ N : List Nat, updN s.heap N = fun β => if β ∈ N then none else s.heap β := by
    intro N
    induction N with
    | nil => funext β; simp [updN]
    | cons x N ih =>
      funext β
      simp only [updN, upd, ih, List.mem_cons]
      by_cases e : β = x
      · simp [e]
      · simp [e]
  unfold ASt.without
  rw [hN]
theorem initX_two {n : Nat} {args : List XT} (h : args.length ≤ n) : initX n args = ⟨bk (rowsB (fun t => (embA 0 args).1.getD t .dead) n), lookupU (embA 0 args).2, 1, n, gh0⟩ := by
  have hl : (embA 0 args).1.length = args.length := embA_length args 0
  rw [bk_rows _ _ fun t ht => by simp [List.getD, List.getElem?_eq_none (show (embA 0 args).1.length ≤ t by omega)]]
  rfl
abbrev xi (n : Int) : XT := .v (.i n)
abbrev xb (x : Bool) : XT := .v (.b x)
/-- a row of numbers that is handed over -/
abbrev xints (l : List Int) : XT := .ol 1 (mapC xi l) l.length
section
variable {α : Type} (f : α → AVal)
theorem embL_leaf (G ν : Nat) : ∀ (l : List α) (i : Nat), embL G ν i (mapC (fun x => XT.v (f x)) l) = (mapC f l, [])
  | [], _ => rfl
  | x :: l, i => by
    have := embL_leaf G ν l (i + 1)
    show ((emb G (ch ν i) (.v (f x))).1 :: (embL G ν (i + 1) (mapC (fun x => XT.v (f x)) l)).1, (emb G (ch ν i) (.v (f x))).2 ++ (embL G ν (i + 1) (mapC (fun x => XT.v (f x)) l)).2) = _
    rw [this]
    rfl
theorem xnL_leaf (s : ASt) : ∀ (l : List α) (as : List AVal), xnL s as (mapC (fun x => XT.v (f x)) l) = []
  | [], as => by cases as <;> rfl
  | x :: l, [] => rfl
  | x :: l, a :: as => by
    show xn s a (.v (f x)) ++ xnL s as (mapC (fun x => XT.v (f x)) l) = []
    rw [xnL_leaf s l as]
    cases a <;> rfl
theorem XVL_leaf (sm s : ASt) (h : ∀ x, snap 6 sm (f x) = some (f x)) : ∀ l : List α, XVL sm s (mapC f l) (mapC (fun x => XT.v (f x)) l) = True
  | [] => rfl
  | x :: l => by
    have e : XVL sm s (mapC f (x :: l)) (mapC (fun x => XT.v (f x)) (x :: l)) = (XV sm s (f x) (.v (f x)) ∧ XVL sm s (mapC f l) (mapC (fun x => XT.v (f x)) l)) := rfl
    have e2 : XV sm s (f x) (.v (f x)) = (snap 6 sm (f x) = some (f x)) := by cases f x <;> rfl
    rw [e, e2, XVL_leaf sm s h l, h x]
    simp
theorem xtreeL_leaf (s : ASt) (h : ∀ x, (f x).tree = true) : ∀ l : List α, xtreeL s (mapC f l) (mapC (fun x => XT.v (f x)) l) = true
  | [] => rfl
  | x :: l => by
    have e : xtreeL s (mapC f (x :: l)) (mapC (fun x => XT.v (f x)) (x :: l)) = (xtree s (f x) (.v (f x)) && xtreeL s (mapC f l) (mapC (fun x => XT.v (f x)) l)) := rfl
    have e2 : xtree s (f x) (.v (f x)) = (f x).tree := by cases f x <;> rfl
    rw [e, e2, xtreeL_leaf s h l, h x]
    rfl
theorem xflatL_leaf (h : ∀ x, (f x).flatT = true) : ∀ l : List α, xflatL (mapC (fun x => XT.v (f x)) l) = true
  | [] => rfl
  | x :: l => by
    have e : xflatL (mapC (fun x => XT.v (f x)) (x :: l)) = ((f x).flatT && xflatL (mapC (fun x => XT.v (f x)) l)) := rfl
    rw [e, xflatL_leaf h l, h x]
    rfl
theorem freezeL_leaf : ∀ l : List α, freezeL (mapC (fun x => XT.v (f x)) l) = mapC f l
  | [] => rfl
  | x :: l => by
    have := freezeL_leaf l
    show f x :: freezeL (mapC (fun x => XT.v (f x)) l) = _
    rw [this]
    rfl
end
theorem embL_i (G ν : Nat) (l : List Int) (i : Nat) : embL G ν i (mapC xi l) = (mapC AVal.i l, []) := embL_leaf AVal.i G ν l i
theorem xnL_i (s : ASt) (l : List Int) (as : List AVal) : xnL s as (mapC xi l) = [] := xnL_leaf AVal.i s l as
theorem XVL_i (sm s : ASt) (l : List Int) : XVL sm s (mapC AVal.i l) (mapC xi l) = True := XVL_leaf AVal.i sm s (fun _ => rfl) l
theorem xtreeL_i (s : ASt) (l : List Int) : xtreeL s (mapC AVal.i l) (mapC xi l) = true := xtreeL_leaf AVal.i s (fun _ => rfl) l
theorem xflatL_i (l : List Int) : xflatL (mapC xi l) = true := xflatL_leaf AVal.i (fun _ => rfl) l
theorem freezeL_i (l : List Int) : freezeL (mapC xi l) = mapC AVal.i l := freezeL_leaf AVal.i l
theorem xlensL_i (l : List Int) : xlensL (mapC xi l) = True := by
  induction l with
  | nil => rfl
  | cons x l ih =>
    show (xlens (xi x) ∧ xlensL (mapC xi l)) = True
    rw [ih]
    simp [xlens, lens]
theorem ch_lit {ν i n : Nat} (h : n < 65536) : (ch ν i = n) = False := by
  have := (ch_gt ν i).2
  exact eq_false (by omega)
theorem lit_ch {ν i n : Nat} (h : n < 65536) : (n = ch ν i) = False := by
  have := (ch_gt ν i).2
  exact eq_false (by omega)
theorem ch_ch {ν i ν' i' : Nat} : (ch ν i = ch ν' i') = (ν = ν' ∧ i = i') := propext ⟨ch_inj, fun ⟨a, b⟩ => by rw [a, b]⟩
section
variable {sm s : ASt} {a : AVal} {as : List AVal} {c : XT} {cs cells : List XT} {t : AVal} {β g off n n' sz G ν i : Nat}
theorem w_xnL_nil : xnL s [] [] = [] := rfl
theorem w_xnL_cons : xnL s (a :: as) (c :: cs) = xn s a c ++ xnL s as cs := rfl
theorem w_xn_v : xn s a (.v t) = [] := by cases a <;> rfl
theorem w_xn_own : xn s (.own β g off n) (.ol sz cells n') = match blkOf s β g with | some blk => β :: xnL s (blk.cells.take (n * sz)) cells | none => [] := by simp only [xn]; cases blkOf s β g <;> rfl
theorem w_xn_nl : xn s .nl (.ol sz cells n') = [] := rfl
theorem w_xn_ptr : xn s (.ptr β g off) (.op cells) = match blkOf s β g with | some blk => β :: xnL s blk.cells cells | none => [] := by simp only [xn]; cases blkOf s β g <;> rfl
theorem w_xn_agg : xn s (.agg as) (.agg cs) = xnL s as cs := rfl
theorem w_xn_tup : xn s (.tup as) (.tup cs) = xnL s as cs := rfl
theorem w_XVL_nil : XVL sm s [] [] = True := rfl
theorem w_XVL_cons : XVL sm s (a :: as) (c :: cs) = (XV sm s a c ∧ XVL sm s as cs) := rfl
theorem w_XV_v : XV sm s a (.v t) = (snap 6 sm a = some t) := by cases a <;> rfl
theorem w_XV_own : XV sm s (.own β g off n') (.ol sz cells n) = match blkOf s β g with | some blk => (off = 0 ∧ n' = n ∧ blk.size = sz ∧ n * sz ≤ blk.cells.length ∧ XVL sm s (blk.cells.take (n * sz)) cells) | none => False := by simp only [XV]; cases blkOf s β g <;> rfl
theorem w_XV_nl : XV sm s .nl (.ol sz cells n) = (cells = [] ∧ n = 0) := rfl
theorem w_XV_ptr : XV sm s (.ptr β g off) (.op cells) = match blkOf s β g with | some blk => (off = 0 ∧ XVL sm s blk.cells cells) | none => False := by simp only [XV]; cases blkOf s β g <;> rfl
theorem w_XV_agg : XV sm s (.agg as) (.agg cs) = XVL sm s as cs := rfl
theorem w_XV_tup : XV sm s (.tup as) (.tup cs) = XVL sm s as cs := rfl
theorem w_xtreeL_nil : xtreeL s [] [] = true := rfl
theorem w_xtreeL_cons : xtreeL s (a :: as) (c :: cs) = (xtree s a c && xtreeL s as cs) := rfl
theorem w_xtree_v : xtree s a (.v t) = a.tree := by cases a <;> rfl
theorem w_xtree_own : xtree s (.own β g off n) (.ol sz cells n') = match blkOf s β g with | some blk => xtreeL s (blk.cells.take (n * sz)) cells | none => true := by simp only [xtree]; cases blkOf s β g <;> rfl
theorem w_xtree_nl : xtree s .nl (.ol sz cells n') = true := rfl
theorem w_xtree_ptr : xtree s (.ptr β g off) (.op cells) = match blkOf s β g with | some blk => xtreeL s blk.cells cells | none => true := by simp only [xtree]; cases blkOf s β g <;> rfl
theorem w_xtree_agg : xtree s (.agg as) (.agg cs) = xtreeL s as cs := rfl
theorem w_xtree_tup : xtree s (.tup as) (.tup cs) = xtreeL s as cs := rfl
theorem w_xkeepL_nil : xkeepL s [] [] = True := rfl
theorem w_xkeepL_cons : xkeepL s (a :: as) (c :: cs) = (xkeep s a c ∧ xkeepL s as cs) := rfl
theorem w_xkeep_v : xkeep s a (.v t) = True := by cases a <;> rfl
theorem w_xkeep_own : xkeep s (.own β g off n) (.ol sz cells n') = match blkOf s β g with | some blk => (off = 0 ∧ n' = n ∧ blk.size = sz) | none => False := by simp only [xkeep]; cases blkOf s β g <;> rfl
theorem w_xkeep_nl : xkeep s .nl (.ol sz cells n) = True := rfl
theorem w_xkeep_ptr : xkeep s (.ptr β g off) (.op cells) = match blkOf s β g with | some blk => (off = 0 ∧ blk.size = cells.length) | none => False := by simp only [xkeep]; cases blkOf s β g <;> rfl
theorem w_xkeep_agg : xkeep s (.agg as) (.agg cs) = xkeepL s as cs := rfl
theorem w_xsafeL_nil : xsafeL [] = true := rfl
theorem w_xsafeL_cons : xsafeL (c :: cs) = (xsafe c && xsafeL cs) := rfl
theorem w_xsafe_v : xsafe (.v t) = true := rfl
theorem w_xsafe_ol : xsafe (.ol sz cells n) = xflatL cells := rfl
theorem w_xsafe_op : xsafe (.op cells) = xflatL cells := rfl
theorem w_xsafe_agg : xsafe (.agg cs) = xsafeL cs := rfl
theorem w_xflatL_nil : xflatL [] = true := rfl
theorem w_xflatL_cons : xflatL (c :: cs) = (xflat c && xflatL cs) := rfl
theorem w_xflat_v : xflat (.v t) = t.flatT := rfl
theorem w_xflat_ol : xflat (.ol sz cells n) = xflatL cells := rfl
theorem w_xflat_op : xflat (.op cells) = xflatL cells := rfl
theorem w_xflat_agg : xflat (.agg cs) = xflatL cs := rfl
theorem w_xflat_tup : xflat (.tup cs) = xflatL cs := rfl
theorem w_xupdL_nil : xupdL G [] [] = [] := rfl
theorem w_xupdL_cons : xupdL G (a :: as) (c :: cs) = xupd G a c ++ xupdL G as cs := rfl
theorem w_xupd_v : xupd G a (.v t) = [] := by cases a <;> rfl
theorem w_xupd_own : xupd G (.own β g off n) (.ol sz cells n') = (β, ⟨g, sz, (embL G β 0 cells).1⟩) :: (embL G β 0 cells).2 := rfl
theorem w_xupd_nl : xupd G .nl (.ol sz cells n) = [] := rfl
theorem w_xupd_ptr : xupd G (.ptr β g off) (.op cells) = (β, ⟨g, cells.length, (embL G β 0 cells).1⟩) :: (embL G β 0 cells).2 := rfl
theorem w_xupd_agg : xupd G (.agg as) (.agg cs) = xupdL G as cs := rfl
theorem w_embL_nil : embL G ν i [] = ([], []) := rfl
theorem w_embL_cons : embL G ν i (c :: cs) = ((emb G (ch ν i) c).1 :: (embL G ν (i + 1) cs).1, (emb G (ch ν i) c).2 ++ (embL G ν (i + 1) cs).2) := rfl
theorem w_emb_v : emb G ν (.v t) = (t, []) := rfl
theorem w_emb_ol : emb G ν (.ol sz cells n) = (.own ν G 0 n, (ν, ⟨G, sz, (embL G ν 0 cells).1⟩) :: (embL G ν 0 cells).2) := rfl
theorem w_emb_op : emb G ν (.op cells) = (.ptr ν G 0, (ν, ⟨G, cells.length, (embL G ν 0 cells).1⟩) :: (embL G ν 0 cells).2) := rfl
theorem w_emb_agg : emb G ν (.agg cs) = (.agg (embL G ν 0 cs).1, (embL G ν 0 cs).2) := rfl
theorem w_emb_tup : emb G ν (.tup cs) = (.tup (embL G ν 0 cs).1, (embL G ν 0 cs).2) := rfl
theorem w_embA_nil : embA i [] = ([], []) := rfl
theorem w_embA_cons : embA i (c :: cs) = ((emb 0 i c).1 :: (embA (i + 1) cs).1, (emb 0 i c).2 ++ (embA (i + 1) cs).2) := rfl
theorem w_lookup_nil {t : Nat} : lookupU [] t = none := rfl
theorem w_lookup_cons {k t : Nat} {v : Blk} {r : List (Nat × Blk)} : lookupU ((k, v) :: r) t = if t = k then some v else lookupU r t := rfl
end
/-- the words of a walk, as one -/
theorem walkS : type_of% (And.intro (And.intro (And.intro (And.intro (And.intro (And.intro (And.intro (And.intro @ne_eq.{1} @ex_nil) (And.intro @ex_skip @ex_exit)) (And.intro (And.intro @ex_ret @ex_seq) (And.intro @ex_block @ex_region))) (And.intro (And.intro (And.intro @ex_regionG @ex_cond) (And.intro @condE_bool @condE_any)) (And.intro (And.intro @ex_code_exit @ex_code_ret) (And.intro @ex_blk_normal (And.intro @ex_blk_ret @ex_blk_exit))))) (And.intro (And.intro (And.intro (And.intro @ex_ops_nil @ex_ops) (And.intro @guardO_none @guardO_some)) (And.intro (And.intro @guardD_some @guardN_tt) (And.intro @guardN_ff (And.intro @guardN_ft @guardN_tf)))) (And.intro (And.intro (And.intro @guardN_skip @guardN_dec) (And.intro @guardN_neg @guardN_beq)) (And.intro (And.intro @guardN_bp @guardE_bool) (And.intro @guardE_skip (And.intro @contE_some @contS_some)))))) (And.intro (And.intro (And.intro (And.intro (And.intro @contD_none @contD_quiet0) (And.intro @contD_quiet @contD_eff)) (And.intro (And.intro @drOf_true @drOf_false) (And.intro @freeD_some @putE_some))) (And.intro (And.intro (And.intro @stepE_op @callF_clo) (And.intro @callF_bnd @loopR_normal)) (And.intro (And.intro @loopR_exit @loopR_ret) (And.intro @apost_ret (And.intro @apost_normal @apostX_ret))))) (And.intro (And.intro (And.intro (And.intro @apostX_normal @initX_two) (And.intro @embL_i @xnL_i)) (And.intro (And.intro @XVL_i @xtreeL_i) (And.intro @xflatL_i (And.intro @w_xnL_nil @w_xnL_cons)))) (And.intro (And.intro (And.intro @w_xn_v @w_xn_own) (And.intro @w_xn_nl @w_xn_ptr)) (And.intro (And.intro @w_xn_agg @w_xn_tup) (And.intro @w_XVL_nil (And.intro @w_XVL_cons @w_XV_v))))))) (And.intro (And.intro (And.intro (And.intro (And.intro (And.intro @w_XV_own @w_XV_nl) (And.intro @w_XV_ptr @w_XV_agg)) (And.intro (And.intro @w_XV_tup @w_xtreeL_nil) (And.intro @w_xtreeL_cons @w_xtree_v))) (And.intro (And.intro (And.intro @w_xtree_own @w_xtree_nl) (And.intro @w_xtree_ptr @w_xtree_agg)) (And.intro (And.intro @w_xtree_tup @w_xkeepL_nil) (And.intro @w_xkeepL_cons (And.intro @w_xkeep_v @w_xkeep_own))))) (And.intro (And.intro (And.intro (And.intro @w_xkeep_nl @w_xkeep_ptr) (And.intro @w_xkeep_agg @w_xsafeL_nil)) (And.intro (And.intro @w_xsafeL_cons @w_xsafe_v) (And.intro @w_xsafe_ol (And.intro @w_xsafe_op @w_xsafe_agg)))) (And.intro (And.intro (And.intro @w_xflatL_nil @w_xflatL_cons) (And.intro @w_xflat_v @w_xflat_ol)) (And.intro (And.intro @w_xflat_op @w_xflat_agg) (And.intro @w_xflat_tup (And.intro @w_xupdL_nil @w_xupdL_cons)))))) (And.intro (And.intro (And.intro (And.intro (And.intro @w_xupd_v @w_xupd_own) (And.intro @w_xupd_nl @w_xupd_ptr)) (And.intro (And.intro @w_xupd_agg @w_embL_nil) (And.intro @w_embL_cons (And.intro @w_emb_v @w_emb_ol)))) (And.intro (And.intro (And.intro @w_emb_op @w_emb_agg) (And.intro @w_emb_tup @w_embA_nil)) (And.intro (And.intro @w_embA_cons @w_lookup_nil) (And.intro @w_lookup_cons (And.intro @after_eq @without_eq))))) (And.intro (And.intro (And.intro (And.intro @ch_ch @ch_lit) (And.intro @lit_ch @List.cons_append.{0})) (And.intro (And.intro @List.nodup_cons.{0} @List.nodup_nil.{0}) (And.intro @List.mem_cons.{0} (And.intro @List.mem_nil_iff.{0} @List.not_mem_nil.{0})))) (And.intro (And.intro (And.intro @Option.getD_some.{0} @Option.getD_none.{0}) (And.intro @exists_prop @List.take_length.{0})) (And.intro (And.intro @and_self @upd_bk) (And.intro @bk_at (And.intro @getB_zero @getB_succ)))))))) (And.intro (And.intro (And.intro (And.intro (And.intro (And.intro (And.intro @modB_zero @modB_succ) (And.intro @rows_lit @repB_zero)) (And.intro (And.intro @repB_succ @List.length_cons.{0}) (And.intro @List.length_nil.{0} @upd_upd_same))) (And.intro (And.intro (And.intro @upd_apply @lay_nil) (And.intro @lay_zero @lay_succ)) (And.intro (And.intro @snap_flat @snap_lst) (And.intro @snap_iptr (And.intro @snap_nl @snap_agg))))) (And.intro (And.intro (And.intro (And.intro @snap_tup @snap_clo) (And.intro @snap_bnd @snap_ptr)) (And.intro (And.intro @snap_own @one_1) (And.intro @one_2 (And.intro @one_3 @one_4)))) (And.intro (And.intro (And.intro @mk_tmp @mk_heap) (And.intro @mk_gh @gh0_nm)) (And.intro (And.intro @gh0_fz @ghs_nm) (And.intro @ghs_fz (And.intro @gh0_lt @ghs_lt)))))) (And.intro (And.intro (And.intro (And.intro (And.intro @ghl_nm @ghl_fz) (And.intro @ghl_lt @lkO_nil)) (And.intro (And.intro @lkO_cons @lkN_nil) (And.intro @lkN_cons @mk_gen))) (And.intro (And.intro (And.intro @mk_n @sem_add) (And.intro @sem_sub @sem_mul)) (And.intro (And.intro @sem_lss @sem_leq) (And.intro @sem_gtr (And.intro @sem_geq @sem_eql))))) (And.intro (And.intro (And.intro (And.intro @sem_neq @sem_not) (And.intro @sem_neg @init_two)) (And.intro (And.intro @Bool.true_and @List.getD_cons_zero.{0}) (And.intro @List.getD_cons_succ.{0} (And.intro @List.map_cons.{0, 0} @List.map_nil.{0, 0})))) (And.intro (And.intro (And.intro @List.nil_append.{0} @List.append_nil.{0}) (And.intro @Option.bind_some.{0, 0} @Option.bind_none.{0, 0})) (And.intro (And.intro @List.getElem?_cons_zero.{0} @List.getElem?_cons_succ.{0}) (And.intro @List.getElem?_toArray.{0} (And.intro @List.take_succ_cons.{0} @List.take_nil.{0}))))))) (And.intro (And.intro (And.intro (And.intro (And.intro (And.intro @List.drop_succ_cons.{0} @Bool.not_true) (And.intro @Bool.not_false @and_true)) (And.intro (And.intro @true_and @false_and) (And.intro @and_false @or_true))) (And.intro (And.intro (And.intro @true_or @or_false) (And.intro @false_or @Option.some.injEq.{0})) (And.intro (And.intro @exists_eq_left.{1} @exists_eq_left'.{1}) (And.intro @Bool.true_eq_false (And.intro @Bool.false_eq_true @Option.isSome_some.{0}))))) (And.intro (And.intro (And.intro (And.intro @Option.isSome_none.{0} @Bool.and_self) (And.intro @Bool.and_true @true_implies)) (And.intro (And.intro @false_implies @Bool.not_eq_true') (And.intro @Bool.not_eq_false' (And.intro @decide_eq_true_eq @decide_eq_false_iff_not)))) (And.intro (And.intro (And.intro @AVal.flat.injEq @Value.bool.injEq) (And.intro @Value.int.injEq @AVal.tup.injEq)) (And.intro (And.intro @List.cons.injEq.{0} @AVal.lst.injEq) (And.intro @bp_true (And.intro @bp_false @true_bp)))))) (And.intro (And.intro (And.intro (And.intro (And.intro @false_bp @Int.natCast_nonneg) (And.intro @Int.toNat_natCast @Int.ofNat_lt)) (And.intro (And.intro @Int.ofNat_le @Int.natCast_inj) (And.intro @Nat.mul_one (And.intro @Nat.one_mul @Nat.add_zero)))) (And.intro (And.intro (And.intro @Nat.zero_add @Nat.add_one_le_iff) (And.intro @decide_true @decide_false)) (And.intro (And.intro @not_false_eq_true @not_true_eq_false) (And.intro @Nat.lt_irrefl (And.intro @Nat.le_refl @len_mapC))))) (And.intro (And.intro (And.intro (And.intro @get_mapC @treeL_i) (And.intro @treeL_ints @treeL_u8)) (And.intro (And.intro @flatten1 @rep_i) (And.intro @List.drop_zero.{0} (And.intro @mapC_take @mapC_drop)))) (And.intro (And.intro (And.intro @len_replicate @mapC_set) (And.intro @len_fillC @fillC_all)) (And.intro (And.intro @lay_fillC @Nat.sub_self) (And.intro @Nat.sub_zero (And.intro @List.replicate_zero.{0} @List.take_zero.{0}))))))))) := (And.intro (And.intro (And.intro (And.intro (And.intro (And.intro (And.intro (And.intro @ne_eq.{1} @ex_nil) (And.intro @ex_skip @ex_exit)) (And.intro (And.intro @ex_ret @ex_seq) (And.intro @ex_block @ex_region))) (And.intro (And.intro (And.intro @ex_regionG @ex_cond) (And.intro @condE_bool @condE_any)) (And.intro (And.intro @ex_code_exit @ex_code_ret) (And.intro @ex_blk_normal (And.intro @ex_blk_ret @ex_blk_exit))))) (And.intro (And.intro (And.intro (And.intro @ex_ops_nil @ex_ops) (And.intro @guardO_none @guardO_some)) (And.intro (And.intro @guardD_some @guardN_tt) (And.intro @guardN_ff (And.intro @guardN_ft @guardN_tf)))) (And.intro (And.intro (And.intro @guardN_skip @guardN_dec) (And.intro @guardN_neg @guardN_beq)) (And.intro (And.intro @guardN_bp @guardE_bool) (And.intro @guardE_skip (And.intro @contE_some @contS_some)))))) (And.intro (And.intro (And.intro (And.intro (And.intro @contD_none @contD_quiet0) (And.intro @contD_quiet @contD_eff)) (And.intro (And.intro @drOf_true @drOf_false) (And.intro @freeD_some @putE_some))) (And.intro (And.intro (And.intro @stepE_op @callF_clo) (And.intro @callF_bnd @loopR_normal)) (And.intro (And.intro @loopR_exit @loopR_ret) (And.intro @apost_ret (And.intro @apost_normal @apostX_ret))))) (And.intro (And.intro (And.intro (And.intro @apostX_normal @initX_two) (And.intro @embL_i @xnL_i)) (And.intro (And.intro @XVL_i @xtreeL_i) (And.intro @xflatL_i (And.intro @w_xnL_nil @w_xnL_cons)))) (And.intro (And.intro (And.intro @w_xn_v @w_xn_own) (And.intro @w_xn_nl @w_xn_ptr)) (And.intro (And.intro @w_xn_agg @w_xn_tup) (And.intro @w_XVL_nil (And.intro @w_XVL_cons @w_XV_v))))))) (And.intro (And.intro (And.intro (And.intro (And.intro (And.intro @w_XV_own @w_XV_nl) (And.intro @w_XV_ptr @w_XV_agg)) (And.intro (And.intro @w_XV_tup @w_xtreeL_nil) (And.intro @w_xtreeL_cons @w_xtree_v))) (And.intro (And.intro (And.intro @w_xtree_own @w_xtree_nl) (And.intro @w_xtree_ptr @w_xtree_agg)) (And.intro (And.intro @w_xtree_tup @w_xkeepL_nil) (And.intro @w_xkeepL_cons (And.intro @w_xkeep_v @w_xkeep_own))))) (And.intro (And.intro (And.intro (And.intro @w_xkeep_nl @w_xkeep_ptr) (And.intro @w_xkeep_agg @w_xsafeL_nil)) (And.intro (And.intro @w_xsafeL_cons @w_xsafe_v) (And.intro @w_xsafe_ol (And.intro @w_xsafe_op @w_xsafe_agg)))) (And.intro (And.intro (And.intro @w_xflatL_nil @w_xflatL_cons) (And.intro @w_xflat_v @w_xflat_ol)) (And.intro (And.intro @w_xflat_op @w_xflat_agg) (And.intro @w_xflat_tup (And.intro @w_xupdL_nil @w_xupdL_cons)))))) (And.intro (And.intro (And.intro (And.intro (And.intro @w_xupd_v @w_xupd_own) (And.intro @w_xupd_nl @w_xupd_ptr)) (And.intro (And.intro @w_xupd_agg @w_embL_nil) (And.intro @w_embL_cons (And.intro @w_emb_v @w_emb_ol)))) (And.intro (And.intro (And.intro @w_emb_op @w_emb_agg) (And.intro @w_emb_tup @w_embA_nil)) (And.intro (And.intro @w_embA_cons @w_lookup_nil) (And.intro @w_lookup_cons (And.intro @after_eq @without_eq))))) (And.intro (And.intro (And.intro (And.intro @ch_ch @ch_lit) (And.intro @lit_ch @List.cons_append.{0})) (And.intro (And.intro @List.nodup_cons.{0} @List.nodup_nil.{0}) (And.intro @List.mem_cons.{0} (And.intro @List.mem_nil_iff.{0} @List.not_mem_nil.{0})))) (And.intro (And.intro (And.intro @Option.getD_some.{0} @Option.getD_none.{0}) (And.intro @exists_prop @List.take_length.{0})) (And.intro (And.intro @and_self @upd_bk) (And.intro @bk_at (And.intro @getB_zero @getB_succ)))))))) (And.intro (And.intro (And.intro (And.intro (And.intro (And.intro (And.intro @modB_zero @modB_succ) (And.intro @rows_lit @repB_zero)) (And.intro (And.intro @repB_succ @List.length_cons.{0}) (And.intro @List.length_nil.{0} @upd_upd_same))) (And.intro (And.intro (And.intro @upd_apply @lay_nil) (And.intro @lay_zero @lay_succ)) (And.intro (And.intro @snap_flat @snap_lst) (And.intro @snap_iptr (And.intro @snap_nl @snap_agg))))) (And.intro (And.intro (And.intro (And.intro @snap_tup @snap_clo) (And.intro @snap_bnd @snap_ptr)) (And.intro (And.intro @snap_own @one_1) (And.intro @one_2 (And.intro @one_3 @one_4)))) (And.intro (And.intro (And.intro @mk_tmp @mk_heap) (And.intro @mk_gh @gh0_nm)) (And.intro (And.intro @gh0_fz @ghs_nm) (And.intro @ghs_fz (And.intro @gh0_lt @ghs_lt)))))) (And.intro (And.intro (And.intro (And.intro (And.intro @ghl_nm @ghl_fz) (And.intro @ghl_lt @lkO_nil)) (And.intro (And.intro @lkO_cons @lkN_nil) (And.intro @lkN_cons @mk_gen))) (And.intro (And.intro (And.intro @mk_n @sem_add) (And.intro @sem_sub @sem_mul)) (And.intro (And.intro @sem_lss @sem_leq) (And.intro @sem_gtr (And.intro @sem_geq @sem_eql))))) (And.intro (And.intro (And.intro (And.intro @sem_neq @sem_not) (And.intro @sem_neg @init_two)) (And.intro (And.intro @Bool.true_and @List.getD_cons_zero.{0}) (And.intro @List.getD_cons_succ.{0} (And.intro @List.map_cons.{0, 0} @List.map_nil.{0, 0})))) (And.intro (And.intro (And.intro @List.nil_append.{0} @List.append_nil.{0}) (And.intro @Option.bind_some.{0, 0} @Option.bind_none.{0, 0})) (And.intro (And.intro @List.getElem?_cons_zero.{0} @List.getElem?_cons_succ.{0}) (And.intro @List.getElem?_toArray.{0} (And.intro @List.take_succ_cons.{0} @List.take_nil.{0}))))))) (And.intro (And.intro (And.intro (And.intro (And.intro (And.intro @List.drop_succ_cons.{0} @Bool.not_true) (And.intro @Bool.not_false @and_true)) (And.intro (And.intro @true_and @false_and) (And.intro @and_false @or_true))) (And.intro (And.intro (And.intro @true_or @or_false) (And.intro @false_or @Option.some.injEq.{0})) (And.intro (And.intro @exists_eq_left.{1} @exists_eq_left'.{1}) (And.intro @Bool.true_eq_false (And.intro @Bool.false_eq_true @Option.isSome_some.{0}))))) (And.intro (And.intro (And.intro (And.intro @Option.isSome_none.{0} @Bool.and_self) (And.intro @Bool.and_true @true_implies)) (And.intro (And.intro @false_implies @Bool.not_eq_true') (And.intro @Bool.not_eq_false' (And.intro @decide_eq_true_eq @decide_eq_false_iff_not)))) (And.intro (And.intro (And.intro @AVal.flat.injEq @Value.bool.injEq) (And.intro @Value.int.injEq @AVal.tup.injEq)) (And.intro (And.intro @List.cons.injEq.{0} @AVal.lst.injEq) (And.intro @bp_true (And.intro @bp_false @true_bp)))))) (And.intro (And.intro (And.intro (And.intro (And.intro @false_bp @Int.natCast_nonneg) (And.intro @Int.toNat_natCast @Int.ofNat_lt)) (And.intro (And.intro @Int.ofNat_le @Int.natCast_inj) (And.intro @Nat.mul_one (And.intro @Nat.one_mul @Nat.add_zero)))) (And.intro (And.intro (And.intro @Nat.zero_add @Nat.add_one_le_iff) (And.intro @decide_true @decide_false)) (And.intro (And.intro @not_false_eq_true @not_true_eq_false) (And.intro @Nat.lt_irrefl (And.intro @Nat.le_refl @len_mapC))))) (And.intro (And.intro (And.intro (And.intro @get_mapC @treeL_i) (And.intro @treeL_ints @treeL_u8)) (And.intro (And.intro @flatten1 @rep_i) (And.intro @List.drop_zero.{0} (And.intro @mapC_take @mapC_drop)))) (And.intro (And.intro (And.intro @len_replicate @mapC_set) (And.intro @len_fillC @fillC_all)) (And.intro (And.intro @lay_fillC @Nat.sub_self) (And.intro @Nat.sub_zero (And.intro @List.replicate_zero.{0} @List.take_zero.{0})))))))))
end Go.Own
