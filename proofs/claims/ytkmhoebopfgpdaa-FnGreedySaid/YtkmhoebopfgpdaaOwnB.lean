/-
  OWN WORK, generic over any program: what an abstract value stands for in memory; the contract 'Den' of a function; 'awp', the walk over abstract states. Definitions alone.
-/
import Derived.Test.YtkmhoebopfgpdaaOwnA
namespace Go.Own
open Go Go.RowKit
noncomputable section

def maxI : Nat := 9223372036854775807

structure Env where
  w : World
  ok : Nat → Prop
  loc : Nat → Nat → Option (Option Nat × Nat)
  gen : Nat

def Env.room (E : Env) (b k : Nat) : Prop := ∃ arr T fz, E.w.heap[b]? = some (.cells arr T fz) ∧ k ≤ arr.size

/-- values of which the kind alone is known: 0 a number, 1 an error -/
def kinP : Nat → Value → Prop
  | 0, v => ∃ n, v = .int .i64 n
  | 2, v => v = .slice none 0 0
  | _, v => ∃ t p, v = .iface t p
mutual
def RepV (E : Env) : AVal → Value → Prop
  | .flat u, v => scalar u = true ∧ v = u
  | .agg cs, v => ∃ vs : List Value, v = .agg vs.toArray ∧ RepA E cs vs
  | .tup cs, v => ∃ vs : List Value, v = .tuple vs.toArray ∧ RepL E cs vs
  | .lst cells n, v => ∃ a c, v = .slice a n c ∧ n ≤ c ∧ c ≤ maxI ∧ (cells = [] ∨ ∃ b off, a = some ⟨b, off, none⟩ ∧ E.ok b ∧ RepC E cells b off)
  | .nl, v => ∃ a, v = .slice a 0 0
  | .iptr cells off, v => ∃ b base, v = .pointer (some ⟨b, base + off, none⟩) ∧ E.ok b ∧ RepC E cells b base
  | .own β g off n, v => g < E.gen ∧ v.oneCell' = true ∧ ∀ r sz, E.loc β g = some (r, sz) → ∃ a c, v = .slice a n c ∧ n ≤ c ∧ c ≤ maxI ∧ (c = 0 ∨ ∃ b, r = some b ∧ a = some ⟨b, off, none⟩ ∧ E.room b (off + c * sz)) ∧ (off = 0 → c = 0 → r = none)
  | .ptr β g off, v => g < E.gen ∧ v.oneCell' = true ∧ ∀ r sz, E.loc β g = some (r, sz) → ∃ b, r = some b ∧ v = .pointer (some ⟨b, off, none⟩)
  | .clo f cs, v => ∃ vs : List Value, v = .func (.func f) #[] vs.toArray ∧ RepL E cs vs
  | .bnd f bs, v => ∃ vs : List Value, v = .func (.func f) vs.toArray #[] ∧ RepL E bs vs
  | .row vs, v => ∃ b T fz, v = .pointer (some ⟨b, 0, none⟩) ∧ E.ok b ∧ E.w.heap[b]? = some (.cells vs.toArray T fz)
  | .kin c, v => kinP c v
  | .anyb, v => ∃ x, v = .bool x
  | .dead, _ => True
def RepL (E : Env) : List AVal → List Value → Prop
  | [], vs => vs = []
  | c :: cs, vs => ∃ v r, vs = v :: r ∧ RepV E c v ∧ RepL E cs r
def RepC (E : Env) : List AVal → Nat → Nat → Prop
  | [], _, _ => True
  | c :: cs, b, off => (∃ v, E.w.cell? ⟨b, off, none⟩ = some v ∧ v.oneCell' = true ∧ RepV E c v) ∧ RepC E cs b (off + 1)
def RepA (E : Env) : List AVal → List Value → Prop
  | [], vs => vs = []
  | c :: cs, vs => ∃ v r, vs = v :: r ∧ v.oneCell' = true ∧ RepV E c v ∧ RepA E cs r
end

/-- trees alone: nothing owned -/
def treeEnv (w : World) (ok : Nat → Prop) : Env := ⟨w, ok, fun _ _ => none, 0⟩

/-- the package's tables lie where they lie -/
def globPins [GL] : List (AVal × Value) := (GL.tab.map fun p => (.iptr p.2 0, .pointer (some ⟨p.1, 0, none⟩))) ++ ((GL.ex.map fun p => (.row p.2, .pointer (some ⟨p.1, 0, none⟩))) ++ GL.shp.map fun g => (.iptr [.kin g.2] 0, .pointer (some ⟨g.1, 0, none⟩)))
def Globs [GL] (E : Env) : Prop := ∀ p ∈ globPins, RepV E p.1 p.2

/-- THE CONTRACT: on arguments that read as these trees, in whatever world, the call hands back a value that reads as the tree 't' (its memory new, or the arguments'); all that was there is as it was. -/
def Den [GL] (P : Program) (f : FuncId) (args : List AVal) (t : AVal) : Prop :=
  (∃ fn, P.funcs[f]? = some fn ∧ fn.body.isSome = true ∧ (fn.name == "runtime.NumGoroutine") = false) ∧
  t.tree = true ∧
  ∀ (w : World) (vs : List Value) (ok : Nat → Prop), (∀ b, ok b → b < w.heap.size) → Globs (treeEnv w ok) → RepL (treeEnv w ok) args vs →
    Calls P f vs.toArray w fun e w' => ∃ v, e = .returned v ∧ RepV (treeEnv w' fun b => ok b ∨ (w.heap.size ≤ b ∧ b < w'.heap.size)) t v ∧ Below w.heap.size w w'

/-- where a call began: the world, the blocks that were handed over to be written, values that are to be kept in sight -/
structure Base where
  w : World
  K : Nat → Prop
  pins : List (AVal × Value)
def Base.new (B : Base) (b : Nat) : Prop := B.w.heap.size ≤ b ∨ B.K b
/-- what was there, and was not handed over, is as it was -/
structure BelowB (B : Base) (w : World) : Prop where
  os : w.os = B.w.os
  tape : w.tape = B.w.tape
  output : w.output = B.w.output
  size : B.w.heap.size ≤ w.heap.size
  block : ∀ k, k < B.w.heap.size → ¬ B.K k → w.heap[k]? = B.w.heap[k]?
  room : ∀ k, B.K k → ∀ arr T fz, B.w.heap[k]? = some (.cells arr T fz) → ∃ arr' T' fz', w.heap[k]? = some (.cells arr' T' fz') ∧ arr.size ≤ arr'.size
theorem BelowB.refl (w : World) (K : Nat → Prop) (pins : List (AVal × Value)) : BelowB ⟨w, K, pins⟩ w := ⟨rfl, rfl, rfl, Nat.le_refl _, fun _ _ _ => rfl, fun _ _ arr T fz h => ⟨arr, T, fz, h, Nat.le_refl _⟩⟩
theorem BelowB.below {w w' : World} {pins : List (AVal × Value)} (h : BelowB ⟨w, fun _ => False, pins⟩ w') : Below w.heap.size w w' := ⟨h.os, h.tape, h.output, h.size, fun k hk => h.block k hk id⟩
/-- a change of blocks that were new or handed over -/
theorem BelowB.change {B : Base} {w w' : World} (h : BelowB B w) (os : w'.os = w.os) (tape : w'.tape = w.tape) (output : w'.output = w.output) (size : w.heap.size ≤ w'.heap.size)
    (block : ∀ k, k < w.heap.size → ¬ B.new k → w'.heap[k]? = w.heap[k]?)
    (room : ∀ k arr T fz, B.K k → w.heap[k]? = some (.cells arr T fz) → ∃ arr' T' fz', w'.heap[k]? = some (.cells arr' T' fz') ∧ arr.size ≤ arr'.size) : BelowB B w' :=
  ⟨os.trans h.os, tape.trans h.tape, output.trans h.output, Nat.le_trans h.size size, fun i hi hn => (block i (Nat.lt_of_lt_of_le hi h.size) (fun e => e.elim (fun e => absurd hi (Nat.not_lt.2 e)) hn)).trans (h.block i hi hn),
   fun k hk arr T fz e => by
    obtain ⟨arr1, T1, fz1, e1, l1⟩ := h.room k hk arr T fz e
    obtain ⟨arr2, T2, fz2, e2, l2⟩ := room k arr1 T1 fz1 hk e1
    exact ⟨arr2, T2, fz2, e2, Nat.le_trans l1 l2⟩⟩
theorem BelowB.step {B : Base} {w w' : World} (h : BelowB B w) (k : Below w.heap.size w w') : BelowB B w' :=
  h.change k.os k.tape k.output k.size (fun i hi _ => k.block i hi) fun i arr T fz _ e => ⟨arr, T, fz, (k.block i (Array.getElem?_eq_some_iff.1 e).1).trans e, Nat.le_refl _⟩

/-- TREES IN CONTRACTS THAT HAND MEMORY OVER: 'ol', 'op': a slice, a pointer to a block that nobody else leads to; 'v': shared, never written any more. -/
inductive XT where
  | v (a : AVal)
  | ol (sz : Nat) (cells : List XT) (n : Nat)
  | op (cells : List XT)
  | agg (cells : List XT)
  | tup (l : List XT)
  deriving Inhabited

mutual
/-- 'S': the blocks that are handed over, each once -/
def RepX (E : Env) : XT → Value → List Nat → Prop
  | .v a, v, S => S = [] ∧ a.tree = true ∧ RepV E a v
  | .ol sz cells n, v, S => cells.length = n * sz ∧ ∃ a c, v = .slice a n c ∧ n ≤ c ∧ c ≤ maxI ∧ ((c = 0 ∧ S = []) ∨ (c ≠ 0 ∧ ∃ b S' vs, a = some ⟨b, 0, none⟩ ∧ S = b :: S' ∧
      (∃ arr T, E.w.heap[b]? = some (.cells arr T (0, 0)) ∧ cells.length ≤ arr.size ∧ c * sz ≤ arr.size) ∧ RepXL E true cells vs S' ∧ ∀ (j : Nat) (v : Value), vs[j]? = some v → E.w.cell? ⟨b, j, none⟩ = some v))
  | .op cells, v, S => ∃ b S' vs, v = .pointer (some ⟨b, 0, none⟩) ∧ S = b :: S' ∧
      (∃ arr T, E.w.heap[b]? = some (.cells arr T (0, 0)) ∧ cells.length ≤ arr.size) ∧ RepXL E true cells vs S' ∧ ∀ (j : Nat) (v : Value), vs[j]? = some v → E.w.cell? ⟨b, j, none⟩ = some v
  | .agg cs, v, S => ∃ vs : List Value, v = .agg vs.toArray ∧ RepXL E true cs vs S
  | .tup cs, v, S => ∃ vs : List Value, v = .tuple vs.toArray ∧ RepXL E false cs vs S
def RepXL (E : Env) (one : Bool) : List XT → List Value → List Nat → Prop
  | [], vs, S => vs = [] ∧ S = []
  | c :: cs, vs, S => ∃ v r S1 S2, vs = v :: r ∧ S = S1 ++ S2 ∧ (one = true → v.oneCell' = true) ∧ RepX E c v S1 ∧ RepXL E one cs r S2
end

/-- THE CONTRACT OF A CALL THAT WRITES WHAT IT IS HANDED: arguments that read as 'args' read as 'args'' behind the call; the result reads as 't'; all that was not handed over is as it was. -/
def DenX [GL] (P : Program) (f : FuncId) (args args' : List XT) (t : XT) : Prop :=
  (∃ fn, P.funcs[f]? = some fn ∧ fn.body.isSome = true ∧ (fn.name == "runtime.NumGoroutine") = false) ∧
  ∀ (w : World) (vs : List Value) (ok : Nat → Prop) (S : List Nat), (∀ b, ok b → b < w.heap.size ∧ b ∉ S) → (∀ b ∈ S, b < w.heap.size) → S.Nodup → Globs (treeEnv w ok) → RepXL (treeEnv w ok) false args vs S →
    Calls P f vs.toArray w fun e w' => ∃ v S1 S2, e = .returned v ∧
      RepXL (treeEnv w' fun b => b < w'.heap.size ∧ b ∉ S1 ++ S2 ∧ (ok b ∨ b ∈ S ∨ w.heap.size ≤ b)) false args' vs S1 ∧
      RepX (treeEnv w' fun b => b < w'.heap.size ∧ b ∉ S1 ++ S2 ∧ (ok b ∨ b ∈ S ∨ w.heap.size ≤ b)) t v S2 ∧
      (S1 ++ S2).Nodup ∧ (∀ b ∈ S1 ++ S2, b < w'.heap.size ∧ (b ∈ S ∨ w.heap.size ≤ b)) ∧ BelowB ⟨w, fun b => b ∈ S, []⟩ w'

/-- THE SAME WITH ONE OF MANY OUTCOMES: for some index with 'p', the arguments read as 'args' i' behind the call, the result as 't i'. -/
def DenY [GL] (P : Program) (f : FuncId) (args : List XT) {ι : Type} (p : ι → Prop) (args' : ι → List XT) (t : ι → XT) : Prop :=
  (∃ fn, P.funcs[f]? = some fn ∧ fn.body.isSome = true ∧ (fn.name == "runtime.NumGoroutine") = false) ∧
  ∀ (w : World) (vs : List Value) (ok : Nat → Prop) (S : List Nat), (∀ b, ok b → b < w.heap.size ∧ b ∉ S) → (∀ b ∈ S, b < w.heap.size) → S.Nodup → Globs (treeEnv w ok) → RepXL (treeEnv w ok) false args vs S →
    Calls P f vs.toArray w fun e w' => ∃ i, p i ∧ ∃ v S1 S2, e = .returned v ∧
      RepXL (treeEnv w' fun b => b < w'.heap.size ∧ b ∉ S1 ++ S2 ∧ (ok b ∨ b ∈ S ∨ w.heap.size ≤ b)) false (args' i) vs S1 ∧
      RepX (treeEnv w' fun b => b < w'.heap.size ∧ b ∉ S1 ++ S2 ∧ (ok b ∨ b ∈ S ∨ w.heap.size ≤ b)) (t i) v S2 ∧
      (S1 ++ S2).Nodup ∧ (∀ b ∈ S1 ++ S2, b < w'.heap.size ∧ (b ∈ S ∨ w.heap.size ≤ b)) ∧ BelowB ⟨w, fun b => b ∈ S, []⟩ w'
theorem DenX.denY [GL] {P : Program} {f : FuncId} {args args' : List XT} {t : XT} (h : DenX P f args args' t) : DenY P f args (fun _ : Unit => True) (fun _ => args') (fun _ => t) :=
  ⟨h.1, fun w vs ok S h1 h2 h3 h4 h5 => (h.2 w vs ok S h1 h2 h3 h4 h5).mono fun _ _ h => ⟨(), trivial, h⟩⟩

/-- the name of a part -/
def ch (ν i : Nat) : Nat := 65536 + (ν + i) * (ν + i + 1) + ν
mutual
/-- the names that a value leads to, as far as a tree hands them over -/
def xn (s : ASt) : AVal → XT → List Nat
  | .own β g _ n, .ol sz cells _ => match blkOf s β g with
    | some blk => β :: xnL s (blk.cells.take (n * sz)) cells
    | none => []
  | .ptr β g _, .op cells => match blkOf s β g with
    | some blk => β :: xnL s blk.cells cells
    | none => []
  | .agg as, .agg cs => xnL s as cs
  | .tup as, .tup cs => xnL s as cs
  | _, _ => []
def xnL (s : ASt) : List AVal → List XT → List Nat
  | a :: as, c :: cs => xn s a c ++ xnL s as cs
  | _, _ => []
end
mutual
/-- a value reads as a tree; what is shared is read in 'sm' -/
def XV (sm s : ASt) : AVal → XT → Prop
  | a, .v t => snap 6 sm a = some t
  | .own β g off n', .ol sz cells n => match blkOf s β g with
    | some blk => off = 0 ∧ n' = n ∧ blk.size = sz ∧ n * sz ≤ blk.cells.length ∧ XVL sm s (blk.cells.take (n * sz)) cells
    | none => False
  | .nl, .ol _ cells n => cells = [] ∧ n = 0
  | .ptr β g off, .op cells => match blkOf s β g with
    | some blk => off = 0 ∧ XVL sm s blk.cells cells
    | none => False
  | .agg as, .agg cs => XVL sm s as cs
  | .tup as, .tup cs => XVL sm s as cs
  | _, _ => False
def XVL (sm s : ASt) : List AVal → List XT → Prop
  | [], [] => True
  | a :: as, c :: cs => XV sm s a c ∧ XVL sm s as cs
  | _, _ => False
end
mutual
/-- what is shared is no memory of the function's own -/
def xtree (s : ASt) : AVal → XT → Bool
  | a, .v _ => a.tree
  | .own β g _ n, .ol sz cells _ => match blkOf s β g with
    | some blk => xtreeL s (blk.cells.take (n * sz)) cells
    | none => true
  | .ptr β g _, .op cells => match blkOf s β g with
    | some blk => xtreeL s blk.cells cells
    | none => true
  | .agg as, .agg cs => xtreeL s as cs
  | .tup as, .tup cs => xtreeL s as cs
  | _, _ => true
def xtreeL (s : ASt) : List AVal → List XT → Bool
  | a :: as, c :: cs => xtree s a c && xtreeL s as cs
  | _, _ => true
end
mutual
/-- what is shared is no memory at all -/
def xflat : XT → Bool
  | .v a => a.flatT
  | .ol _ cells _ => xflatL cells
  | .op cells => xflatL cells
  | .agg cs => xflatL cs
  | .tup cs => xflatL cs
def xflatL : List XT → Bool
  | [] => true
  | c :: cs => xflat c && xflatL cs
end
mutual
/-- what is shared in the memory that stays the caller's is no memory at all -/
def xsafe : XT → Bool
  | .v _ => true
  | .ol _ cells _ => xflatL cells
  | .op cells => xflatL cells
  | .agg cs => xsafeL cs
  | .tup cs => xflatL cs
def xsafeL : List XT → Bool
  | [] => true
  | c :: cs => xsafe c && xsafeL cs
end
mutual
/-- a tree, laid out under the name ν -/
def emb (G : Nat) : Nat → XT → AVal × List (Nat × Blk)
  | _, .v a => (a, [])
  | ν, .ol sz cells n => (.own ν G 0 n, (ν, ⟨G, sz, (embL G ν 0 cells).1⟩) :: (embL G ν 0 cells).2)
  | ν, .op cells => (.ptr ν G 0, (ν, ⟨G, cells.length, (embL G ν 0 cells).1⟩) :: (embL G ν 0 cells).2)
  | ν, .agg cs => (.agg (embL G ν 0 cs).1, (embL G ν 0 cs).2)
  | ν, .tup cs => (.tup (embL G ν 0 cs).1, (embL G ν 0 cs).2)
def embL (G ν : Nat) : Nat → List XT → List AVal × List (Nat × Blk)
  | _, [] => ([], [])
  | i, c :: cs => ((emb G (ch ν i) c).1 :: (embL G ν (i + 1) cs).1, (emb G (ch ν i) c).2 ++ (embL G ν (i + 1) cs).2)
end
mutual
/-- what an argument leads to behind the call -/
def xupd (G : Nat) : AVal → XT → List (Nat × Blk)
  | .own β g _ _, .ol sz cells _ => (β, ⟨g, sz, (embL G β 0 cells).1⟩) :: (embL G β 0 cells).2
  | .ptr β g _, .op cells => (β, ⟨g, cells.length, (embL G β 0 cells).1⟩) :: (embL G β 0 cells).2
  | .agg as, .agg cs => xupdL G as cs
  | _, _ => []
def xupdL (G : Nat) : List AVal → List XT → List (Nat × Blk)
  | a :: as, c :: cs => xupd G a c ++ xupdL G as cs
  | _, _ => []
end
mutual
/-- the argument's own block stays where it was -/
def xkeep (s : ASt) : AVal → XT → Prop
  | .own β g off n, .ol sz _ n' => match blkOf s β g with
    | some blk => off = 0 ∧ n' = n ∧ blk.size = sz
    | none => False
  | .nl, .ol _ _ _ => True
  | .ptr β g off, .op cells => match blkOf s β g with
    | some blk => off = 0 ∧ blk.size = cells.length
    | none => False
  | .agg as, .agg cs => xkeepL s as cs
  | _, .v _ => True
  | _, _ => False
def xkeepL (s : ASt) : List AVal → List XT → Prop
  | [], [] => True
  | a :: as, c :: cs => xkeep s a c ∧ xkeepL s as cs
  | _, _ => False
end
def lookupU : List (Nat × Blk) → Nat → Option Blk
  | [], _ => none
  | (k, v) :: r, t => if t = k then some v else lookupU r t
def ASt.without (s : ASt) (N : List Nat) : ASt := { s with heap := fun β => if β ∈ N then none else s.heap β }
def ASt.after (s : ASt) (N : List Nat) (U : List (Nat × Blk)) : ASt :=
  { s with heap := fun β => match lookupU U β with | some blk => some blk | none => if β ∈ N then none else s.heap β, gen := s.gen + 1 }

mutual
def lens : AVal → Prop
  | .lst cells n => n ≤ maxI ∧ lensL cells
  | .agg cs => lensL cs
  | .tup cs => lensL cs
  | .iptr cells _ => lensL cells
  | .clo _ cs => lensL cs
  | .bnd _ bs => lensL bs
  | _ => True
def lensL : List AVal → Prop
  | [] => True
  | c :: cs => lens c ∧ lensL cs
end
theorem lensL_iff (l : List AVal) : lensL l ↔ ∀ c ∈ l, lens c := by
  induction l with
  | nil => simp [lensL]
  | cons x xs ih => simp [lensL, ih]

def snapL (s : ASt) : List AVal → Option (List AVal)
  | [] => some []
  | a :: r => match snap 6 s a, snapL s r with
    | some x, some l => some (x :: l)
    | _, _ => none

/-- what a function value calls, and with what -/
def cloQ : AVal → List AVal → Option (FuncId × List AVal)
  | .clo f cs, args => some (f, args ++ cs)
  | .bnd f bs, args => some (f, bs ++ args)
  | _, _ => none

inductive Ex where
  | normal | exit (id : Nat) | ret

/-- a call: by the callee's contract -/
def CallK [GL] (P : Program) (f : FuncId) (as : List AVal) (b : Bool) (s : ASt) (dst : Option Tmp) (K : ASt → Prop) : Prop :=
  ∃ t, Den P f as t ∧ (b = true ∨ t.flatT = true) ∧ ∃ s', s.put dst t = some s' ∧ K s'
/-- a call that writes what it is handed, or hands memory over -/
def CallX [GL] (P : Program) (f : FuncId) (xs : List AVal) (s : ASt) (dst : Option Tmp) (K : ASt → Prop) : Prop :=
  ∃ args args' t, DenX P f args args' t ∧ XVL (s.without (xnL s xs args)) s xs args ∧ (xnL s xs args).Nodup ∧ xkeepL s xs args' ∧ (xtreeL s xs args = true ∨ (xsafeL args' = true ∧ xflat t = true)) ∧
    ((xupdL s.gen xs args' ++ (emb s.gen (s.gh.nm (dst.getD 0)) t).2).map (·.1)).Nodup ∧
    ∃ s', (s.after (xnL s xs args) (xupdL s.gen xs args' ++ (emb s.gen (s.gh.nm (dst.getD 0)) t).2)).put dst (emb s.gen (s.gh.nm (dst.getD 0)) t).1 = some s' ∧ K s'
/-- the same with one of many outcomes -/
def CallY [GL] (P : Program) (f : FuncId) (xs : List AVal) (s : ASt) (dst : Option Tmp) (K : ASt → Prop) : Prop :=
  ∃ (ι : Type) (p : ι → Prop) (args : List XT) (args' : ι → List XT) (t : ι → XT), DenY P f args p args' t ∧ XVL (s.without (xnL s xs args)) s xs args ∧ (xnL s xs args).Nodup ∧
    (xtreeL s xs args = true ∨ ∀ i, p i → (xsafeL (args' i) = true ∧ xflat (t i) = true)) ∧
    ∀ i, p i → xkeepL s xs (args' i) ∧ ((xupdL s.gen xs (args' i) ++ (emb s.gen (s.gh.nm (dst.getD 0)) (t i)).2).map (·.1)).Nodup ∧
      ∃ s', (s.after (xnL s xs args) (xupdL s.gen xs (args' i) ++ (emb s.gen (s.gh.nm (dst.getD 0)) (t i)).2)).put dst (emb s.gen (s.gh.nm (dst.getD 0)) (t i)).1 = some s' ∧ K s'
/-- 'nd': outside of regions that draw their order, one of many outcomes is allowed -/
def CallAny [GL] (P : Program) (nd : Bool) (f : FuncId) (xs : List AVal) (s : ASt) (dst : Option Tmp) (K : Bool → ASt → Prop) : Prop :=
  (∃ as, snapL s xs = some as ∧ CallK P f as (treeL xs) s dst (K false)) ∨ CallX P f xs s dst (K true) ∨ (nd = true ∧ CallY P f xs s dst (K true))

/-- one operation; 'true': it wrote, or made memory -/
def astep [GL] (P : Program) (nd : Bool) (o : Oper) (s : ASt) (K : Bool → ASt → Prop) : Prop :=
  match o.op with
  | .call ⟨.value f, args, _⟩ => match s.eval f with
    | .clo f cs => CallAny P nd f (args.toList.map s.eval ++ cs) s o.dst K
    | .bnd f bs => CallAny P nd f (bs ++ args.toList.map s.eval) s o.dst K
    | _ => False
  | _ => if isEff o then (if isFz s o then (match afroz P s o with
        | some v => (match s.put o.dst v with | some s' => K false s' | none => False)
        | none => False)
      else match aeff P s o with | some s' => K true s' | none => False)
    else match avalue P s o with
      | some v => (match s.put o.dst v with | some s' => K false s' | none => False)
      | none => False

def skipP (s : ASt) (dst : Option Tmp) (K : ASt → Prop) : Prop :=
  match s.put dst (.tup []) with
  | some s' => K s'
  | none => False
def guardP [GL] (P : Program) (nd : Bool) (o : Oper) (K : Bool → ASt → Prop) (Ks : ASt → Prop) (s : ASt) (d : Nat) (want : Bool) : Prop :=
  match s.tmp d with
  | .flat (.bool x) => (x = want → astep P nd o (s.set d (.flat (.bool want))) K) ∧ (x = !want → skipP (s.set d (.flat (.bool !want))) o.dst Ks)
  | .tup [] => skipP s o.dst Ks
  | _ => False

/-! a region that draws its order: 'E' holds the operations that wrote so far, each by how many stand behind it -/
abbrev DrM := Option (List Nat × List (Nat → Option Blk))
def heapless : Op → Bool
  | .move _ | .assign _ | .pick _ _ _ | .unOp _ _ _ | .convert _ _ _ | .extract _ _ | .field _ _ _ | .build _ _ | .box _ _ | .buildSlice _ _ _ => true
  | .binOp op _ _ y _ => !nilQ op y
  | _ => false
def isNew : Op → Bool
  | .alloc _ | .box _ _ | .makeSlice _ _ _ | .buildSlice _ _ _ => true
  | _ => false
def afterB (ops : Array Oper) (i k : Nat) : Bool :=
  match ops[i]? with
  | some o => o.after.toList.any fun e => e.on == k && Region.binds .any e
  | none => false
def idxOf (ops : Array Oper) (r : Nat) : Nat := ops.size - (r + 1)
/-- behind an operation, by way of at most so many -/
def afterR (ops : Array Oper) (k : Nat) : Nat → Nat → Bool
  | 0, _ => false
  | d + 1, i => afterB ops i k || match ops[i]? with
    | some o => o.after.toList.any fun e => Region.binds .any e && afterR ops k d e.on
    | none => false
/-- the operations that one is behind -/
def edgesOf (ops : Array Oper) (k : Nat) : List Nat := match ops[k]? with
  | some o => (o.after.toList.filter fun e => Region.binds .any e).map (·.on)
  | none => []
def ancs (ops : Array Oper) : Nat → List Nat → List Nat
  | 0, L => L
  | n + 1, L => ancs ops n (bif L.contains n then edgesOf ops n ++ L else L)
def afterA (ops : Array Oper) (i k : Nat) : Bool := (ancs ops k (edgesOf ops k)).contains i
/-- behind all that wrote: it is enough to stand behind the last of them -/
def afterAll (ops : Array Oper) (r : Nat) (E : List Nat) : Bool :=
  match E with
  | [] => true
  | q :: _ => afterA ops (idxOf ops q) (idxOf ops r)
def looksB (ops : Array Oper) (i : Nat) (d : Nat) : Bool :=
  match ops[i]? with
  | some o => (o.looksAt ops).contains d
  | none => false
def noOver (ops : Array Oper) (i k : Nat) : Bool :=
  (List.range (k + 1)).all fun j => j < i || match (ops[j]?).bind (·.dst) with | some d => !looksB ops i d | none => true
def needs (ops : Array Oper) (r : Nat) (E : List Nat) (i : Nat) : Bool :=
  i < idxOf ops r && !(E.map (idxOf ops)).contains i && !((ops[i]?).any fun o => heapless o.op) && !afterA ops i (idxOf ops r)
/-- asked again, it yields what it yielded -/
def ReY [GL] (P : Program) (ops : Array Oper) (o : Oper) (s : ASt) : Prop :=
  match o.dst with
  | some d => isEff o = false ∧ (match o.op with | .call ⟨.value _, _, _⟩ => False | _ => True) ∧ match o.guard with
    | none => avalue P s o = some (s.tmp d)
    | some (j, want) => match (ops[j]?).bind (·.dst) with
      | some g => g < s.n ∧ ((s.tmp g = .flat (.bool want) ∧ avalue P s o = some (s.tmp d)) ∨ ((s.tmp g = .flat (.bool !want) ∨ s.tmp g = .tup []) ∧ s.tmp d = .tup []))
      | none => False
  | none => False
def RechL [GL] (P : Program) (ops : Array Oper) (r : Nat) (E : List Nat) (s : ASt) : List Oper → Nat → Prop
  | [], _ => True
  | o :: l, i => (needs ops r E i = true → noOver ops i (idxOf ops r) = true ∧ ReY P ops o s) ∧ RechL P ops r E s l (i + 1)
def freeD (s : ASt) : Option Tmp → Prop
  | some d => s.heap (s.gh.nm d) = none
  | none => True
/-- it would yield the same over no heap at all -/
def NoH [GL] (P : Program) (s : ASt) (o : Oper) : Prop :=
  isEff o = false ∧ (match o.op with | .call ⟨.value _, _, _⟩ => False | _ => True) ∧ avalue P { s with heap := fun _ => none } o = avalue P s o
/-- it would yield the same over each of some heaps -/
def OldL [GL] (P : Program) (s : ASt) (o : Oper) : List (Nat → Option Blk) → Prop
  | [] => True
  | h :: H => avalue P { s with heap := h } o = avalue P s o ∧ OldL P s o H
def Old [GL] (P : Program) (H : List (Nat → Option Blk)) (s : ASt) (o : Oper) : Prop :=
  isEff o = false ∧ (match o.op with | .call ⟨.value _, _, _⟩ => False | _ => True) ∧ OldL P s o H
def drawC [GL] (P : Program) (dr : DrM) (ops : Array Oper) (r : Nat) (o : Oper) (eff : Bool) (s s' : ASt) : Prop :=
  match dr with
  | none => True
  | some (E, H) => match eff with
    | true => afterAll ops r E = true ∧ (if isNew o.op then freeD s o.dst else RechL P ops r E s' ops.toList 0)
    | false => (heapless o.op || afterAll ops r E) = true ∨ NoH P s o ∨ Old P H s o
def nextD (dr : DrM) (r : Nat) (eff : Bool) (s : ASt) : DrM :=
  match dr with
  | none => none
  | some (E, H) => match eff with
    | true => some (r :: E, s.heap :: H)
    | false => some (E, H)
def drOf : Bool → DrM
  | true => some ([], [])
  | false => none

def aops [GL] (P : Program) (dr : DrM) (ops : Array Oper) (Q : ASt → Prop) : List Oper → ASt → Prop
  | [], s => Q s
  | o :: rest, s => match o.guard with
    | none => astep P dr.isNone o s fun eff s' => drawC P dr ops rest.length o eff s s' ∧ aops P (nextD dr rest.length eff s) ops Q rest s'
    | some (j, want) => match (ops[j]?).bind (·.dst) with
      | some d => d < s.n ∧ guardP P dr.isNone o (fun eff s' => drawC P dr ops rest.length o eff s s' ∧ aops P (nextD dr rest.length eff s) ops Q rest s') (aops P dr ops Q rest) s d want
      | none => False

/-- what the table of a region that draws must say -/
def drawOk (ops : Array Oper) : Bool :=
  let n := ops.size
  (List.range n).all fun i => match ops[i]? with
    | some o => o.after.toList.all (fun e => !Region.binds .any e || e.on < i) &&
      (List.range n).all fun k => k == i || match (ops[k]?).bind (·.dst) with
        | some d => o.dst != some d && (!(o.looksAt ops).contains d || (k < i && afterB ops i k) || (i < k && afterB ops k i))
        | none => true
    | none => true

/-! regions that draw and make a variable: as if the variable were made last -/
def P0 : Operand := .const (.pointer (some ⟨0, 0, none⟩))
def qtO (o : Oper) : Oper := { o with op := .move P0 }
def lateL (l : List Oper) (ka : Nat) : List Oper := match l[ka]?, l[l.length - 1]? with
  | some oa, some os => (l.set ka (qtO oa)).set (l.length - 1) (qtO os)
  | _, _ => l
def lateOps (ops : Array Oper) (ka : Nat) : Array Oper := (lateL ops.toList ka).toArray
def late2 (ops : Array Oper) (ka : Nat) : List Oper := match ops.toList[ka]?, ops.toList[ops.toList.length - 1]? with
  | some oa, some os => [oa, os]
  | _, _ => []
def lateOk (ops : Array Oper) (ka : Nat) : Bool := decide (ka + 1 < ops.size) && drawOk (lateOps ops ka) && match ops[ka]?, ops[ops.size - 1]? with
  | some oa, some os => oa.guard.isNone && os.guard.isNone && os.dst.isNone && (match oa.op, oa.dst with | .alloc _, some _ => true | _, _ => false) &&
      (match os.op with | .store _ _ _ => true | _ => false) && (List.range (ops.size - 1)).all fun j => afterR (lateOps ops ka) j 4 (ops.size - 1)
  | _, _ => false

/-! regions that draw, with two operations in no order: both orders are walked -/
def trN (i j k : Nat) : Nat := if k = i then j else if i < k ∧ k ≤ j then k - 1 else k
def renE (i j : Nat) (e : Edge) : Edge := { e with on := trN i j e.on }
def renO (i j : Nat) (o : Oper) : Oper := { o with after := o.after.map (renE i j) }
/-- 'j' behind 'i' -/
def addE (l : List Oper) (i j : Nat) : List Oper := match l[j]? with
  | some o => l.set j { o with after := o.after.push ⟨i, .data⟩ }
  | none => l
/-- 'i' stands just behind 'j' -/
def swapL (l : List Oper) (i j : Nat) : List Oper := match l[i]? with
  | some oi => (l.take i ++ ((l.drop (i + 1)).take (j - i) ++ (oi :: l.drop (j + 1)))).map (renO i j)
  | none => l
def addO (ops : Array Oper) (i j : Nat) : Array Oper := (addE ops.toList i j).toArray
/-- 'i' behind 'j', and just behind it in the text -/
def swapO (ops : Array Oper) (i j : Nat) : Array Oper := (swapL (addE ops.toList j i) i j).toArray
/-- it yields a value, or nothing: no call -/
def valOp : Op → Bool
  | .move _ | .assign _ | .alloc _ | .box _ _ | .build _ _ | .buildSlice _ _ _ | .load _ _ | .store _ _ _ | .binOp _ _ _ _ _ | .unOp _ _ _ | .convert _ _ _ | .makeSlice _ _ _ | .fieldAddr _ _ _ | .field _ _ _ | .indexAddr _ _ _ | .index _ _ _ | .extract _ _ => true
  | _ => false
def bothOk (ops : Array Oper) (i j : Nat) : Bool := decide (i < j) && decide (j < ops.size) && ops.toList.all fun o => o.guard.isNone && valOp o.op
inductive RegOk [GL] (P : Program) (s : ASt) (Q : ASt → Prop) : Array Oper → Prop
  | plain {ops : Array Oper} (hok : drawOk ops = true) (h : aops P (some ([], [])) ops Q ops.toList s) : RegOk P s Q ops
  | late {ops : Array Oper} (ka : Nat) (hok : lateOk ops ka = true) (h : aops P (some ([], [])) (lateOps ops ka) (aops P none (late2 ops ka).toArray Q (late2 ops ka)) (lateOps ops ka).toList s) : RegOk P s Q ops
  | both {ops : Array Oper} (i j : Nat) (hok : bothOk ops i j = true) (h1 : RegOk P s Q (addO ops i j)) (h2 : RegOk P s Q (swapO ops i j)) : RegOk P s Q ops

/-- how a value may be forgotten, or read anew -/
def WV (s s' : ASt) (v v' : AVal) : Prop :=
  v' = v ∨ v' = .dead ∨ (∃ β blk, v = .nl ∧ s.heap β = none ∧ s'.heap β = some blk ∧ v' = .own β blk.gen 0 0 ∧ blk.cells = []) ∨
  (∃ β g off n blk, v = .own β g off n ∧ s.heap β = some blk ∧ blk.gen = g ∧ s'.heap β = none ∧ off + n * blk.size ≤ blk.cells.length ∧
    v' = .lst ((blk.cells.drop off).take (n * blk.size)) n ∧ treeL ((blk.cells.drop off).take (n * blk.size)) = true) ∨
  (∃ β g off n blk, v = .own β g off n ∧ s.heap β = some blk ∧ blk.gen = g ∧ v' = .lst [] n) ∨
  (∃ β g off blk, v = .ptr β g off ∧ s.heap β = some blk ∧ blk.gen = g ∧ s'.heap β = none ∧ v' = .iptr blk.cells off ∧ treeL blk.cells = true)

def WVL (s s' : ASt) : List AVal → List AVal → Prop
  | [], [] => True
  | v :: l, v' :: l' => WV s s' v v' ∧ WVL s s' l l'
  | _, _ => False
/-- 's'' knows less than 's' -/
structure Weak (s s' : ASt) : Prop where
  n : s'.n = s.n
  gen : s.gen ≤ s'.gen
  tmp : ∀ t, WV s s' (s.tmp t) (s'.tmp t)
  heap : ∀ β blk', s'.heap β = some blk' → (∃ blk, s.heap β = some blk ∧ blk'.gen = blk.gen ∧ blk'.size = blk.size ∧ WVL s s' blk.cells blk'.cells) ∨
    (s.heap β = none ∧ blk'.cells = [] ∧ s.gen ≤ blk'.gen ∧ blk'.gen < s'.gen)

inductive Weaks : ASt → ASt → Prop
  | refl (s : ASt) : Weaks s s
  | step {s s' s'' : ASt} (h : Weak s s') (t : Weaks s' s'') : Weaks s s''

def inBlockA (id : Nat) (Q : Ex → ASt → Prop) : Ex → ASt → Prop
  | .exit i, s => if i = id then Q .normal s else Q (.exit i) s
  | e, s => Q e s
def thenA (K : ASt → Prop) (Q : Ex → ASt → Prop) : Ex → ASt → Prop
  | .normal, s => K s
  | e, s => Q e s
def condP (v : AVal) (p q : Prop) : Prop :=
  match v with
  | .flat (.bool x) => (x = true → p) ∧ (x = false → q)
  | .anyb => p ∧ q
  | _ => False

def awp [GL] (P : Program) : Code → (Ex → ASt → Prop) → ASt → Prop
  | .skip, Q, s => Q .normal s
  | .region id ops d, Q, s => match s.gh.lt id with
    | none => aops P (drOf d) ops (Q .normal) ops.toList s
    | some ka => if ka < 1000 then d = true ∧ lateOk ops ka = true ∧ aops P (some ([], [])) (lateOps ops ka) (aops P none (late2 ops ka).toArray (Q .normal) (late2 ops ka)) (lateOps ops ka).toList s else if ka < 2000 then d = true ∧ RegOk P s (Q .normal) ops else ∃ s', Weaks s s' ∧ aops P (drOf d) ops (Q .normal) ops.toList s'
  | .seq a b, Q, s => awp P a (thenA (awp P b Q) Q) s
  | .cond c a b, Q, s => condP (s.eval c) (awp P a Q s) (awp P b Q s)
  | .block id c, Q, s => awp P c (inBlockA id Q) s
  | .loop c, Q, s => ∃ (ι : Type) (I : ι → ASt) (μ : ι → Nat) (x : ι) (V : Ex → ASt → Prop), (∀ e s, V e s → ∃ s', Weaks s s' ∧ Q e s') ∧ Weak s (I x) ∧ ∀ x, awp P c (thenA (fun s' => ∃ y, Weak s' (I y) ∧ μ y < μ x) V) (I x)
  | .exit id, Q, s => Q (.exit id) s
  | .ret, Q, s => Q .ret s
  | _, _, _ => False

/-- every region that draws its order may do so -/
def drawsOk : Code → Bool
  | .region _ ops d => !d || drawOk ops
  | .seq a b => drawsOk a && drawsOk b
  | .cond _ a b => drawsOk a && drawsOk b
  | .block _ c => drawsOk c
  | .loop c => drawsOk c
  | _ => true

def ares (P : Program) (s : ASt) : List ResultVar → Option (List AVal)
  | [] => some []
  | .tmp t :: r => match ares P s r with
    | some l => some (s.tmp t :: l)
    | none => none
  | .cell a t :: r => match aload P s t (s.tmp a), ares P s r with
    | some v, some l => some (v :: l)
    | _, _ => none
def one : List AVal → AVal
  | [x] => x
  | l => .tup l
def apost (P : Program) (fn : Func) (t : AVal) : Ex → ASt → Prop
  | .normal, s | .ret, s => ∃ r, ares P s fn.results.toList = some r ∧ snap 6 s (one r) = some t
  | _, _ => False
def init (n : Nat) (args : List AVal) : ASt := ⟨fun t => args.getD t .dead, fun _ => none, 0, n, gh0⟩

def embA : Nat → List XT → List AVal × List (Nat × Blk)
  | _, [] => ([], [])
  | i, c :: cs => ((emb 0 i c).1 :: (embA (i + 1) cs).1, (emb 0 i c).2 ++ (embA (i + 1) cs).2)
def initX (n : Nat) (args : List XT) : ASt := ⟨fun t => (embA 0 args).1.getD t .dead, lookupU (embA 0 args).2, 1, n, gh0⟩
def postN (s : ASt) (as : List AVal) (args' : List XT) (x : AVal) (t : XT) : List Nat := xnL s as args' ++ xn s x t
def XPost (s : ASt) (as : List AVal) (args' : List XT) (x : AVal) (t : XT) : Prop :=
  (postN s as args' x t).Nodup ∧ XVL (s.without (postN s as args' x t)) s as args' ∧ XV (s.without (postN s as args' x t)) s x t
def apostX (P : Program) (fn : Func) (as : List AVal) (args' : List XT) (t : XT) : Ex → ASt → Prop
  | .normal, s | .ret, s => ∃ r, ares P s fn.results.toList = some r ∧ XPost s as args' (one r) t
  | _, _ => False
mutual
def xlens : XT → Prop
  | .v a => lens a
  | .ol _ cells n => n ≤ maxI ∧ xlensL cells
  | .op cells => xlensL cells
  | .agg cs => xlensL cs
  | .tup cs => xlensL cs
def xlensL : List XT → Prop
  | [] => True
  | c :: cs => xlens c ∧ xlensL cs
end
mutual
/-- the tree, when nobody writes any more -/
def XT.freeze : XT → AVal
  | .v a => a
  | .ol _ cells n => .lst (freezeL cells) n
  | .op cells => .iptr (freezeL cells) 0
  | .agg cs => .agg (freezeL cs)
  | .tup cs => .tup (freezeL cs)
def freezeL : List XT → List AVal
  | [] => []
  | c :: cs => c.freeze :: freezeL cs
end

def lookupA : List (Nat × AVal) → Nat → AVal
  | [], _ => .dead
  | (k, v) :: r, t => if t = k then v else lookupA r t
def lookupH : List (Nat × Blk) → Nat → Option Blk
  | [], _ => none
  | (k, v) :: r, t => if t = k then some v else lookupH r t
def mkG (gh : Gh) (l : List (Nat × AVal)) (h : List (Nat × Blk)) (gen n : Nat) : ASt := ⟨lookupA l, lookupH h, gen, n, gh⟩
abbrev mk (l : List (Nat × AVal)) (h : List (Nat × Blk)) (gen n : Nat) : ASt := mkG gh0 l h gen n

end
end Go.Own
