/-
  OWN WORK, generic over any program: what an abstract value stands for in memory; the contract 'Den' of a function; 'awp', the walk over abstract states. Definitions alone.
-/
import Derived.Test.YtdbongnhdlbplaaOwnA
namespace Go.Own
open Go Go.RowKit
noncomputable section

def maxI : Nat := 9223372036854775807

structure Env where
  w : World
  ok : Nat → Prop
  loc : Nat → Nat → Option (Option Nat × Nat)
  gen : Nat

def Env.room (E : Env) (b k : Nat) : Prop := ∃ arr T fz, E.w.heap[b]? = some (.cells arr T fz) ∧ k ≤ arr.size

mutual
def RepV (E : Env) : AVal → Value → Prop
  | .flat u, v => scalar u = true ∧ v = u
  | .agg cs, v => ∃ vs : List Value, v = .agg vs.toArray ∧ RepA E cs vs
  | .tup cs, v => ∃ vs : List Value, v = .tuple vs.toArray ∧ RepL E cs vs
  | .lst cells n, v => ∃ a c, v = .slice a n c ∧ n ≤ c ∧ c ≤ maxI ∧ (cells = [] ∨ ∃ b off, a = some ⟨b, off, none⟩ ∧ E.ok b ∧ RepC E cells b off)
  | .nl, v => ∃ a, v = .slice a 0 0
  | .iptr cells off, v => ∃ b base, v = .pointer (some ⟨b, base + off, none⟩) ∧ E.ok b ∧ RepC E cells b base
  | .own β g off n, v => g < E.gen ∧ v.oneCell' = true ∧ ∀ r sz, E.loc β g = some (r, sz) → ∃ a c, v = .slice a n c ∧ n ≤ c ∧ c ≤ maxI ∧ (c = 0 ∨ ∃ b, r = some b ∧ a = some ⟨b, off, none⟩ ∧ E.room b (off + c * sz))
  | .ptr β g off, v => g < E.gen ∧ v.oneCell' = true ∧ ∀ r sz, E.loc β g = some (r, sz) → ∃ b, r = some b ∧ v = .pointer (some ⟨b, off, none⟩)
  | .clo f cs, v => ∃ vs : List Value, v = .func (.func f) #[] vs.toArray ∧ RepL E cs vs
  | .dead, _ => True
def RepL (E : Env) : List AVal → List Value → Prop
  | [], vs => vs = []
  | c :: cs, vs => ∃ v r, vs = v :: r ∧ RepV E c v ∧ RepL E cs r
def RepC (E : Env) : List AVal → Nat → Nat → Prop
  | [], _, _ => True
  | c :: cs, b, off => (∃ v, E.w.cell? ⟨b, off, none⟩ = some v ∧ v.oneCell' = true ∧ RepV E c v) ∧ RepC E cs b (off + 1)
def RepA (E : Env) : List AVal → List Value → Prop
  | [], vs => vs = []
  | c :: cs, vs => ∃ v r, vs = v :: r ∧ v.oneCell' = true ∧ RepV E c v ∧ RepA E cs r
end

/-- trees alone: nothing owned -/
def treeEnv (w : World) (ok : Nat → Prop) : Env := ⟨w, ok, fun _ _ => none, 0⟩

/-- THE CONTRACT: on arguments that read as these trees, in whatever world, the call hands back a value that reads as the tree 't' (its memory new, or the arguments'); all that was there is as it was. -/
def Den (P : Program) (f : FuncId) (args : List AVal) (t : AVal) : Prop :=
  (∃ fn, P.funcs[f]? = some fn ∧ fn.body.isSome = true ∧ (fn.name == "runtime.NumGoroutine") = false) ∧
  t.tree = true ∧
  ∀ (w : World) (vs : List Value) (ok : Nat → Prop), (∀ b, ok b → b < w.heap.size) → RepL (treeEnv w ok) args vs →
    Calls P f vs.toArray w fun e w' => ∃ v, e = .returned v ∧ RepV (treeEnv w' fun b => ok b ∨ (w.heap.size ≤ b ∧ b < w'.heap.size)) t v ∧ Below w.heap.size w w'

mutual
def lens : AVal → Prop
  | .lst cells n => n ≤ maxI ∧ lensL cells
  | .agg cs => lensL cs
  | .tup cs => lensL cs
  | .iptr cells _ => lensL cells
  | .clo _ cs => lensL cs
  | _ => True
def lensL : List AVal → Prop
  | [] => True
  | c :: cs => lens c ∧ lensL cs
end
theorem lensL_iff (l : List AVal) : lensL l ↔ ∀ c ∈ l, lens c := by
  induction l with
  | nil => simp [lensL]
  | cons x xs ih => simp [lensL, ih]

def snapL (s : ASt) : List AVal → Option (List AVal)
  | [] => some []
  | a :: r => match snap 6 s a, snapL s r with
    | some x, some l => some (x :: l)
    | _, _ => none

inductive Ex where
  | normal | exit (id : Nat) | ret

/-- a call: by the callee's contract -/
def CallK (P : Program) (_ : Bool) (f : FuncId) (as : List AVal) (b : Bool) (s : ASt) (dst : Option Tmp) (K : ASt → Prop) : Prop :=
  ∃ t, Den P f as t ∧ (b = true ∨ t.flatT = true) ∧ ∃ s', s.put dst t = some s' ∧ K s'

/-- one operation -/
def astep (P : Program) (dr : Bool) (o : Oper) (s : ASt) (K : ASt → Prop) : Prop :=
  match o.op with
  | .call ⟨.value f, args, _⟩ => match s.eval f with
    | .clo f cs => match snapL s (args.toList.map s.eval ++ cs) with
      | some as => CallK P dr f as (treeL (args.toList.map s.eval ++ cs)) s o.dst K
      | none => False
    | _ => False
  | _ => if isEff o then (match aeff P s o with | some s' => K s' | none => False)
    else match avalue P s o with
      | some v => (match s.put o.dst v with | some s' => K s' | none => False)
      | none => False

def skipP (s : ASt) (dst : Option Tmp) (K : ASt → Prop) : Prop :=
  match s.put dst (.tup []) with
  | some s' => K s'
  | none => False
def guardP (P : Program) (dr : Bool) (o : Oper) (K : ASt → Prop) (s : ASt) (d : Nat) (want : Bool) : Prop :=
  match s.tmp d with
  | .flat (.bool x) => (x = want → astep P dr o (s.set d (.flat (.bool want))) K) ∧ (x = !want → skipP (s.set d (.flat (.bool !want))) o.dst K)
  | .tup [] => skipP s o.dst K
  | _ => False

def aops (P : Program) (dr : Bool) (ops : Array Oper) (Q : ASt → Prop) : List Oper → ASt → Prop
  | [], s => Q s
  | o :: rest, s => match o.guard with
    | none => astep P dr o s (aops P dr ops Q rest)
    | some (j, want) => match (ops[j]?).bind (·.dst) with
      | some d => d < s.n ∧ guardP P dr o (aops P dr ops Q rest) s d want
      | none => False

def quietOp (o : Oper) : Bool := !isEff o
def drawOk (ops : Array Oper) : Bool := Region.lexB .any ops && ops.all quietOp

/-- how a value may be forgotten, or read anew -/
def WV (s s' : ASt) (v v' : AVal) : Prop :=
  v' = v ∨ v' = .dead ∨ (∃ β blk, v = .nl ∧ s.heap β = none ∧ s'.heap β = some blk ∧ v' = .own β blk.gen 0 0 ∧ blk.cells = []) ∨
  (∃ β g off n blk, v = .own β g off n ∧ s.heap β = some blk ∧ blk.gen = g ∧ s'.heap β = none ∧ off + n * blk.size ≤ blk.cells.length ∧
    v' = .lst ((blk.cells.drop off).take (n * blk.size)) n ∧ treeL ((blk.cells.drop off).take (n * blk.size)) = true)

/-- 's'' knows less than 's' -/
structure Weak (s s' : ASt) : Prop where
  n : s'.n = s.n
  gen : s.gen ≤ s'.gen
  tmp : ∀ t, WV s s' (s.tmp t) (s'.tmp t)
  heap : ∀ β blk', s'.heap β = some blk' → s.heap β = some blk' ∨ (s.heap β = none ∧ blk'.cells = [] ∧ s.gen ≤ blk'.gen ∧ blk'.gen < s'.gen)

def inBlockA (id : Nat) (Q : Ex → ASt → Prop) : Ex → ASt → Prop
  | .exit i, s => if i = id then Q .normal s else Q (.exit i) s
  | e, s => Q e s
def thenA (K : ASt → Prop) (Q : Ex → ASt → Prop) : Ex → ASt → Prop
  | .normal, s => K s
  | e, s => Q e s
def condP (v : AVal) (p q : Prop) : Prop :=
  match v with
  | .flat (.bool x) => (x = true → p) ∧ (x = false → q)
  | _ => False

def awp (P : Program) : Code → (Ex → ASt → Prop) → ASt → Prop
  | .skip, Q, s => Q .normal s
  | .region _ ops d, Q, s => aops P d ops (Q .normal) ops.toList s
  | .seq a b, Q, s => awp P a (thenA (awp P b Q) Q) s
  | .cond c a b, Q, s => condP (s.eval c) (awp P a Q s) (awp P b Q s)
  | .block id c, Q, s => awp P c (inBlockA id Q) s
  | .loop c, Q, s => ∃ (ι : Type) (I : ι → ASt) (μ : ι → Nat) (x : ι), Weak s (I x) ∧ ∀ x, awp P c (thenA (fun s' => ∃ y, Weak s' (I y) ∧ μ y < μ x) Q) (I x)
  | .exit id, Q, s => Q (.exit id) s
  | .ret, Q, s => Q .ret s
  | _, _, _ => False

/-- every region that draws its order may do so -/
def drawsOk : Code → Bool
  | .region _ ops d => !d || drawOk ops
  | .seq a b => drawsOk a && drawsOk b
  | .cond _ a b => drawsOk a && drawsOk b
  | .block _ c => drawsOk c
  | .loop c => drawsOk c
  | _ => true

def ares (P : Program) (s : ASt) : List ResultVar → Option (List AVal)
  | [] => some []
  | .tmp t :: r => match ares P s r with
    | some l => some (s.tmp t :: l)
    | none => none
  | .cell a t :: r => match aload P s t (s.tmp a), ares P s r with
    | some v, some l => some (v :: l)
    | _, _ => none
def one : List AVal → AVal
  | [x] => x
  | l => .tup l
def apost (P : Program) (fn : Func) (t : AVal) : Ex → ASt → Prop
  | .normal, s | .ret, s => ∃ r, ares P s fn.results.toList = some r ∧ snap 6 s (one r) = some t
  | _, _ => False
def init (n : Nat) (args : List AVal) : ASt := ⟨fun t => args.getD t .dead, fun _ => none, 0, n⟩

def lookupA : List (Nat × AVal) → Nat → AVal
  | [], _ => .dead
  | (k, v) :: r, t => if t = k then v else lookupA r t
def lookupH : List (Nat × Blk) → Nat → Option Blk
  | [], _ => none
  | (k, v) :: r, t => if t = k then some v else lookupH r t
def mk (l : List (Nat × AVal)) (h : List (Nat × Blk)) (gen n : Nat) : ASt := ⟨lookupA l, lookupH h, gen, n⟩

end
end Go.Own
