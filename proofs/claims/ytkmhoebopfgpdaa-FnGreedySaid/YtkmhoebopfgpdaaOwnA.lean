/-
  OWN WORK, generic over any program: an abstract machine for functions that only make memory of their own ('trees' are memory that nobody writes any more, 'own' slices and 'ptr' are blocks of the running function). Definitions alone; soundness stands in OwnB, OwnC.
-/
import Derived.WalkKit
import Derived.Deep.Quiet
namespace Go.Own
open Go Go.RowKit
noncomputable section

inductive AVal where
  | flat (v : Value)
  | agg (cs : List AVal)
  | tup (vs : List AVal)
  | lst (cells : List AVal) (n : Nat)
  | nl
  | iptr (cells : List AVal) (off : Nat)
  | own (β g off n : Nat)
  | ptr (β g off : Nat)
  | clo (f : FuncId) (cs : List AVal)
  | bnd (f : FuncId) (bs : List AVal)
  | row (vs : List Value)
  | kin (c : Nat)
  | anyb
  | dead
  deriving Inhabited

abbrev AVal.i (n : Int) : AVal := .flat (.int .i64 n)
abbrev AVal.b (x : Bool) : AVal := .flat (.bool x)
abbrev AVal.s (x : ByteArray) : AVal := .flat (.string x)

def scalar : Value → Bool
  | .bool _ => true | .int _ _ => true | .float _ _ => true | .string _ => true | .pointer none => true | .nilFunc => true | .nilIface => true | _ => false

/-- one cell's value -/
def absC : Value → AVal
  | .slice none 0 0 => .nl
  | .func (.func f) ⟨[]⟩ ⟨[]⟩ => .clo f []
  | v => if scalar v then .flat v else .dead
def absV : Value → AVal
  | .agg cs => if cs.toList.all Value.oneCell' then .agg (cs.toList.map absC) else .dead
  | v => absC v

mutual
def AVal.tree : AVal → Bool
  | .flat _ => true
  | .agg cs => treeL cs
  | .tup cs => treeL cs
  | .lst cells _ => treeL cells
  | .nl => true
  | .iptr cells _ => treeL cells
  | .clo _ cs => treeL cs
  | .bnd _ bs => treeL bs
  | .row _ => true
  | .kin _ => true
  | _ => false
def treeL : List AVal → Bool
  | [] => true
  | c :: cs => c.tree && treeL cs
end
@[simp] theorem treeL_append (a b : List AVal) : treeL (a ++ b) = (treeL a && treeL b) := by
  induction a with
  | nil => simp [treeL]
  | cons x xs ih => simp [treeL, ih, Bool.and_assoc]
theorem treeL_iff (l : List AVal) : treeL l = true ↔ ∀ c ∈ l, c.tree = true := by
  induction l with
  | nil => simp [treeL]
  | cons x xs ih => simp [treeL, ih]
theorem treeL_map {α : Type} (f : α → AVal) (l : List α) (h : ∀ x, (f x).tree = true) : treeL (l.map f) = true := by
  rw [treeL_iff]; intro c hc; obtain ⟨x, _, rfl⟩ := List.mem_map.1 hc; exact h x
theorem treeL_flatMap {α : Type} (f : α → List AVal) (l : List α) (h : ∀ x, treeL (f x) = true) : treeL (l.flatMap f) = true := by
  rw [treeL_iff]; intro c hc; obtain ⟨x, _, hx⟩ := List.mem_flatMap.1 hc; exact (treeL_iff _).1 (h x) c hx

/-- the package's tables that are never written: global and cells -/
class GL where
  tab : List (Nat × List AVal)
  tree : ∀ p ∈ tab, treeL p.2 = true
  /-- those whose whole cells are known -/
  ex : List (Nat × List Value)
  /-- variables of which the kind alone is known (see kinP) -/
  shp : List (Nat × Nat)
def lookG : List (Nat × List AVal) → Nat → Option (List AVal)
  | [], _ => none
  | (k, v) :: r, g => if g = k then some v else lookG r g
def globV [GL] (g : Nat) : AVal := match lookG GL.tab g with
  | some cells => .iptr cells 0
  | none => .dead

def isFlat : AVal → Bool
  | .flat _ => true
  | _ => false
/-- no memory at all -/
def AVal.flatT : AVal → Bool
  | .flat _ => true
  | .agg cs => cs.all isFlat
  | .tup cs => cs.all isFlat
  | _ => false

inductive TKind where
  | none | str | slice (e : TypeId) | struct (fs : List (Nat × TypeId)) | array (n : Nat) (e : TypeId)
structure TI where
  size : Nat
  agg : Bool
  bytes : Nat
  zero : List AVal
  kind : TKind

def kindOf : TypeDesc → TKind
  | .string => .str
  | .slice e => .slice e
  | .struct fs => .struct (fs.toList.map fun f => (f.offset, f.type))
  | .array n e => .array n e
  | _ => .none
def aggD : TypeDesc → Bool
  | .struct _ | .array _ _ => true
  | _ => false
def ti0 (P : Program) (t : TypeId) : Option TI :=
  match P.info? t, P.underlying t with
  | some i, some d => match i.zero with
    | some z => if z.cells.toList.all Value.oneCell' then some ⟨i.size, aggD d, i.bytes, z.cells.toList.map absC, kindOf d⟩ else none
    | none => none
  | _, _ => none
/-- as above, but shut to the kernel: so that no step of a walk reckons in the program's tables -/
theorem ti_there : ∃ f : Program → TypeId → Option TI, ∀ P t, f P t = ti0 P t := ⟨ti0, fun _ _ => rfl⟩
noncomputable def ti : Program → TypeId → Option TI := Classical.choose ti_there
theorem ti_eq (P : Program) (t : TypeId) : ti P t = ti0 P t := Classical.choose_spec ti_there P t

structure Blk where
  gen : Nat
  size : Nat
  cells : List AVal
/-- for the walk alone: under which names new blocks go; which new memory is never written -/
structure Gh where
  nm : Nat → Nat
  fz : Nat → Bool
  lt : Nat → Option Nat
def gh0 : Gh := ⟨fun d => d, fun _ => false, fun _ => none⟩
structure ASt where
  tmp : Nat → AVal
  heap : Nat → Option Blk
  gen : Nat
  n : Nat
  gh : Gh

def upd {α : Type} (f : Nat → α) (k : Nat) (v : α) : Nat → α := fun t => if t = k then v else f t
def ASt.eval [GL] (s : ASt) : Operand → AVal
  | .tmp t => s.tmp t
  | .const v => absV v
  | .global g => globV g
  | .func f => .clo f []
def ASt.set (s : ASt) (d : Nat) (v : AVal) : ASt := { s with tmp := upd s.tmp d v }
def ASt.put (s : ASt) (d : Option Tmp) (v : AVal) : Option ASt :=
  match d with
  | some d => if d < s.n then some (s.set d v) else none
  | none => some s

def semv {α : Type} (P : Program) : Sem α → Option α
  | .pure a => some a
  | .program k => semv P (k P)
  | _ => none
/-- a computation on scalars that touches no memory -/
def semS (P : Program) (x : Sem Value) : Option AVal :=
  match semv P x with
  | some v => if scalar v then some (.flat v) else none
  | none => none

def flat? : AVal → Option Value
  | .flat v => some v
  | _ => none
def flats : List AVal → Option (List Value)
  | [] => some []
  | .flat v :: r => match flats r with
    | some l => some (v :: l)
    | none => none
  | _ :: _ => none
def conc : AVal → Option Value
  | .flat v => some v
  | .agg cs => match flats cs with
    | some l => some (.agg l.toArray)
    | none => none
  | _ => none

def blkOf (s : ASt) (β g : Nat) : Option Blk :=
  match s.heap β with
  | some blk => if blk.gen = g then some blk else none
  | none => none

/-- it names no block that is gone -/
def live (s : ASt) : AVal → Bool
  | .ptr β g _ => (blkOf s β g).isSome
  | .own β g _ _ => (blkOf s β g).isSome
  | _ => true

def rd (t : TI) (cells : List AVal) (off : Nat) : Option AVal :=
  if t.agg then (if off + t.size ≤ cells.length then some (.agg ((cells.drop off).take t.size)) else none)
  else cells[off]?
def part? (t : TI) (cells : List AVal) (off : Nat) : Option AVal := rd t cells off

def aload (P : Program) (s : ASt) (t : TypeId) : AVal → Option AVal
  | .ptr β g off => match ti P t, blkOf s β g with
    | some t, some blk => rd t blk.cells off
    | _, _ => none
  | .iptr cells off => match ti P t with
    | some t => rd t cells off
    | none => none
  | _ => none

def afieldAddr (P : Program) (t : TypeId) (x : AVal) (f : Nat) : Option AVal :=
  match ti P t with
  | some ⟨_, _, _, _, .struct fs⟩ => match fs[f]? with
    | some (o, ft) => match ti P ft with
      | some fi => if fi.size = 0 then none else match x with
        | .ptr β g off => some (.ptr β g (off + o))
        | .iptr cells off => some (.iptr cells (off + o))
        | _ => none
      | none => none
    | none => none
  | _ => none

def afield (P : Program) (t : TypeId) (x : AVal) (f : Nat) : Option AVal :=
  match ti P t, x with
  | some ⟨_, _, _, _, .struct fs⟩, .agg cs => match fs[f]? with
    | some (o, ft) => match ti P ft with
      | some fi => part? fi cs o
      | none => none
    | none => none
  | _, _ => none

def aindexAddr (P : Program) (t : TypeId) (x ix : AVal) : Option AVal :=
  match ix with
  | .flat (.int _ i) => match ti P t with
    | some ⟨_, _, _, _, .slice e⟩ => match ti P e with
      | some ei => match x with
        | .lst cells n => if 0 ≤ i ∧ i < n ∧ (i.toNat + 1) * ei.size ≤ cells.length ∧ ei.size ≠ 0 then some (.iptr cells (i.toNat * ei.size)) else none
        | .own β g off n => if 0 ≤ i ∧ i < n then some (.ptr β g (off + i.toNat * ei.size)) else none
        | _ => none
      | none => none
    | some ⟨_, _, _, _, .array len e⟩ => match ti P e with
      | some ei => match x with
        | .ptr β g off => if 0 ≤ i ∧ i < len then some (.ptr β g (off + i.toNat * ei.size)) else none
        | .iptr cells off => if 0 ≤ i ∧ i < len then some (.iptr cells (off + i.toNat * ei.size)) else none
        | _ => none
      | none => none
    | _ => none
  | _ => none

/-- 'build', 'buildSlice': the parts laid over the zero cells -/
def cellsOf : AVal → Option (List AVal)
  | .agg cs => some cs
  | .dead => none
  | .tup _ => none
  | v => some [v]
def lay (cells : List AVal) (off : Nat) (vs : List AVal) : List AVal := cells.take off ++ vs ++ cells.drop (off + vs.length)
def afill (place : Nat → Option (Nat × Nat)) (cells : List AVal) : List (Nat × AVal) → Option (List AVal)
  | [] => some cells
  | (i, v) :: rest => match place i with
    | none => none
    | some (off, size) => match cellsOf v with
      | some vs => if vs.length = size ∧ off + size ≤ cells.length then afill place (lay cells off vs) rest else none
      | none => none

def places (P : Program) : List (Nat × TypeId) → Option (List (Nat × Nat))
  | [] => some []
  | (o, ft) :: r => match ti P ft, places P r with
    | some fi, some l => some ((o, fi.size) :: l)
    | _, _ => none
def abuild [GL] (P : Program) (s : ASt) (t : TypeId) (parts : List (Nat × Operand)) : Option AVal :=
  match ti P t with
  | some ⟨_, _, _, z, .struct fs⟩ => match places P fs with
    | some pl => match afill (fun i => pl[i]?) z (parts.map fun p => (p.1, s.eval p.2)) with
      | some cs => some (.agg cs)
      | none => none
    | none => none
  | some ⟨_, _, _, z, .array _ e⟩ => match ti P e with
    | some ei => match afill (fun i => some (i * ei.size, ei.size)) z (parts.map fun p => (p.1, s.eval p.2)) with
      | some cs => some (.agg cs)
      | none => none
    | none => none
  | _ => none

def optI [GL] (s : ASt) (d : Nat) : Option Operand → Option Nat
  | none => some d
  | some o => match s.eval o with
    | .flat (.int _ i) => if 0 ≤ i then some i.toNat else none
    | _ => none

/-- x[lo:hi], x[0:0:0] -/
def asliceV [GL] (P : Program) (s : ASt) (t : TypeId) (x : AVal) (lo hi mx : Option Operand) : Option AVal :=
  match ti P t with
  | some ⟨_, _, _, _, .slice e⟩ => match ti P e with
    | some ei => match x with
      | .lst cells n => match mx with
        | none => match optI s n hi, optI s 0 lo with
          | some h, some l => if l ≤ h ∧ h ≤ n then some (.lst ((cells.drop (l * ei.size)).take ((h - l) * ei.size)) (h - l)) else none
          | _, _ => none
        | some m => match optI s n hi, optI s 0 lo, optI s n (some m), hi with
          | some 0, some 0, some 0, some _ => some .nl
          | _, _, _, _ => none
      | .own β g off n => match mx with
        | none => match optI s n hi, optI s 0 lo with
          | some h, some l => if l ≤ h ∧ h ≤ n ∧ ei.size ≠ 0 then some (.own β g (off + l * ei.size) (h - l)) else none
          | _, _ => none
        | some m => match optI s n hi, optI s 0 lo, optI s n (some m), hi with
          | some 0, some 0, some 0, some _ => some .nl
          | _, _, _, _ => none
      | .nl => match mx with
        | none => match optI s 0 hi, optI s 0 lo with
          | some 0, some 0 => some .nl
          | _, _ => none
        | some m => match optI s 0 hi, optI s 0 lo, optI s 0 (some m), hi with
          | some 0, some 0, some 0, some _ => some .nl
          | _, _, _, _ => none
      | _ => none
    | none => none
  | _ => none

/-- a slice of a string -/
def asliceS (P : Program) (t : TypeId) (a : Value) (lo hi : Option Value) : Option AVal :=
  match ti P t with
  | some ⟨_, _, _, _, .str⟩ => semS P (Instr.slice t a lo hi none)
  | _ => none
/-- a slice of the function's own is of the block's element size -/
def szOk (P : Program) (s : ASt) (t : TypeId) : AVal → Bool
  | .own β g _ _ => match blkOf s β g, ti P t with
    | some blk, some i => match i.kind with
      | .slice e => match ti P e with
        | some ei => ei.size == blk.size
        | none => true
      | _ => true
    | _, _ => true
  | _ => true

def alen (P : Program) (ats : List TypeId) (x : AVal) : Option AVal :=
  match ats with
  | [t] => match ti P t with
    | some ⟨_, _, _, _, .slice _⟩ => match x with
      | .lst _ n => some (.i n)
      | .own _ _ _ n => some (.i n)
      | .nl => some (.i 0)
      | _ => none
    | some ⟨_, _, _, _, .str⟩ => match x with
      | .flat (.string x) => some (.i x.size)
      | _ => none
    | _ => none
  | _ => none
def acap (P : Program) (ats : List TypeId) (x : AVal) : Option AVal :=
  match ats with
  | [t] => match ti P t with
    | some ⟨_, _, _, _, .slice _⟩ => match x with
      | .nl => some (.i 0)
      | _ => none
    | _ => none
  | _ => none

/-- a slice held against nil -/
def nilQ : BinOp → Operand → Bool
  | .eql, .const (.slice none 0 0) => true
  | _, _ => false
def nilA (P : Program) (s : ASt) (t : TypeId) (v : AVal) : Option AVal :=
  match ti P t with
  | some ⟨_, _, _, _, .slice _⟩ => match v with
    | .lst cells _ => if cells.length = 0 then some .anyb else some (.flat (.bool false))
    | .nl => some .anyb
    | .kin 2 => some (.flat (.bool true))
    | .own β g off n => if 0 < n ∧ live s (.own β g off n) = true then some (.flat (.bool false)) else none
    | _ => none
  | _ => none
/-- the nil slice, kept in mind as such where the ghosts say so -/
def asgn [GL] (s : ASt) (dst : Option Tmp) (x : Operand) : AVal :=
  match dst, x with
  | some d, .const (.slice none 0 0) => if s.gh.fz d then .kin 2 else .nl
  | _, x => s.eval x
/-- an empty slice -/
def nz : AVal → AVal
  | .kin 2 => .nl
  | v => v
/-- the bytes in cells -/
def bytesOf : List AVal → Option (List Int)
  | [] => some []
  | .flat (.int .u8 n) :: r => (bytesOf r).map (n :: ·)
  | _ :: _ => none
/-- bytes made a string -/
def aconv (P : Program) (src dst : TypeId) : AVal → Option AVal
  | .lst cells n => match P.underlying src, P.underlying dst with
    | some (.slice e), some .string => match P.underlying e with
      | some (.int .u8) => if cells.length = n then (bytesOf cells).map fun xs => .flat (.string (strOfNums xs)) else none
      | _ => none
    | _, _ => none
  | _ => none
/-- operations that only yield a value -/
def avalue [GL] (P : Program) (s : ASt) (o : Oper) : Option AVal :=
  match o.op with
  | .move x => some (s.eval x)
  | .assign x => some (asgn s o.dst x)
  | .pick c a b => match s.eval c with
    | .flat (.bool x) => some (if x then s.eval a else s.eval b)
    | _ => none
  | .binOp op t x y _ => if nilQ op y then nilA P s t (s.eval x) else match conc (s.eval x), conc (s.eval y) with
    | some a, some b => semS P (do eqGuard op t x y a b; binOp op t a b)
    | _, _ => none
  | .unOp op _ x => match s.eval x with
    | .flat a => semS P (Op.unary op a)
    | _ => none
  | .convert src dst x => match s.eval x with
    | .flat a => semS P (convert src dst a)
    | v => aconv P src dst v
  | .extract t ix => match s.eval t with
    | .tup vs => vs[ix]?
    | _ => none
  | .field t x f => afield P t (s.eval x) f
  | .build t parts => abuild P s t parts.toList
  | .makeFunc (.func f) ⟨[]⟩ captured => some (.clo f (captured.toList.map s.eval))
  | .makeFunc (.func f) ⟨x :: first⟩ ⟨[]⟩ => some (.bnd f ((x :: first).map s.eval))
  | .fieldAddr t x f => if live s (s.eval x) then afieldAddr P t (s.eval x) f else none
  | .indexAddr t x ix => if live s (s.eval x) then aindexAddr P t (s.eval x) (s.eval ix) else none
  | .index t x ix => match conc (s.eval x), s.eval ix with
    | some a, .flat b => semS P (Instr.index t a b)
    | _, _ => none
  | .load t x => aload P s t (s.eval x)
  | .nilCheck x => match s.eval x with
    | .ptr β g off => if live s (.ptr β g off) then some (.ptr β g off) else none
    | .iptr cells off => some (.iptr cells off)
    | .clo f cs => some (.clo f cs)
    | _ => none
  | .slice t x lo hi mx => match s.eval x with
    | .flat a => match flats (lo.toList.map s.eval), flats (hi.toList.map s.eval), mx with
      | some l, some h, none => asliceS P t a l.head? h.head?
      | _, _, _ => none
    | v => if live s v then (if szOk P s t v then asliceV P s t v lo hi mx else none) else none
  | .call ⟨.builtin .len, args, ats⟩ => match args.toList with
    | [x] => if live s (s.eval x) then alen P ats.toList (s.eval x) else none
    | _ => none
  | .call ⟨.builtin .cap, args, ats⟩ => match args.toList with
    | [x] => acap P ats.toList (s.eval x)
    | _ => none
  | .call ⟨.builtin .min, args, ats⟩ => match flats (args.toList.map s.eval) with
    | some l => semS P (Builtin.min_ ats o.type l.toArray)
    | none => none
  | .call ⟨.builtin .max, args, ats⟩ => match flats (args.toList.map s.eval) with
    | some l => semS P (Builtin.max_ ats o.type l.toArray)
    | none => none
  | _ => none

def ASt.new (s : ASt) (d : Nat) (size : Nat) (cells : List AVal) (v : AVal) : Option ASt :=
  if d < s.n then some { s with tmp := upd s.tmp d v, heap := upd s.heap (s.gh.nm d) (some ⟨s.gen, size, cells⟩), gen := s.gen + 1 } else none

/-- the elements behind an appended source -/
def srcCells (s : ASt) (size : Nat) : AVal → Option (List AVal × Nat)
  | .nl => some ([], 0)
  | .lst cells n => if cells.length = n * size then some (cells, n) else none
  | .own β g off n => match blkOf s β g with
    | some blk => if blk.size = size ∧ off + n * size ≤ blk.cells.length then some ((blk.cells.drop off).take (n * size), n) else none
    | none => none
  | _ => none

def aappend (P : Program) (s : ASt) (d : Nat) (t : TypeId) (x y : AVal) : Option ASt :=
  match ti P t with
  | some ⟨_, _, _, _, .slice e⟩ => match ti P e with
    | some ei => if ei.size = 0 ∨ ei.bytes = 0 ∨ ei.zero.length ≠ ei.size then none else match srcCells s ei.size y with
      | some (new, k) => match nz x with
        | .nl => if k * ei.bytes ≤ 140737488355328 then s.new d ei.size new (.own (s.gh.nm d) s.gen 0 k) else none
        | .own β g 0 n => match blkOf s β g with
          | some blk => if blk.size = ei.size ∧ n * ei.size ≤ blk.cells.length ∧ (n + k) * ei.bytes ≤ 140737488355328 ∧ d < s.n then
              some { s with tmp := upd s.tmp d (.own β s.gen 0 (n + k)), heap := upd s.heap β (some ⟨s.gen, ei.size, blk.cells.take (n * ei.size) ++ new⟩), gen := s.gen + 1 }
            else none
          | none => none
        | _ => none
      | none => none
    | none => none
  | _ => none

/-- elements copied into a slice of the function's own -/
def acopy (P : Program) (s : ASt) (d : Nat) (t : TypeId) (x y : AVal) : Option ASt :=
  match ti P t with
  | some ⟨_, _, _, _, .slice e⟩ => match ti P e with
    | some ei => match srcCells s ei.size y with
      | some (src, k) => match x with
        | .own β g off n => match blkOf s β g with
          | some blk => if ei.size ≠ 0 ∧ blk.size = ei.size ∧ off + n * ei.size ≤ blk.cells.length ∧ d < s.n then
              some { s with tmp := upd s.tmp d (.i (min k n : Nat)), heap := upd s.heap β (some { blk with cells := lay blk.cells off (src.take (min k n * ei.size)) }) }
            else none
          | none => none
        | _ => none
      | none => none
    | none => none
  | _ => none

/-- elements of a slice of the function's own made zero -/
def aclear (P : Program) (s : ASt) (t : TypeId) (x : AVal) : Option ASt :=
  match ti P t with
  | some ⟨_, _, _, _, .slice e⟩ => match ti P e with
    | some ei => match x with
      | .own β g off n => match blkOf s β g with
        | some blk => if ei.size ≠ 0 ∧ ei.zero.length = ei.size ∧ blk.size = ei.size ∧ off + n * ei.size ≤ blk.cells.length then
            some { s with heap := upd s.heap β (some { blk with cells := lay blk.cells off (List.replicate n ei.zero).flatten }) }
          else none
        | none => none
      | _ => none
    | none => none
  | _ => none

def astore (P : Program) (s : ASt) (t : TypeId) (x v : AVal) : Option ASt :=
  match ti P t with
  | some t => match cellsOf v with
    | some vs => if vs.length = t.size then match x with
      | .ptr β g off => match blkOf s β g with
        | some blk => if off + t.size ≤ blk.cells.length then some { s with heap := upd s.heap β (some { blk with cells := lay blk.cells off vs }) } else none
        | none => none
      | _ => none
      else none
    | none => none
  | none => none

def amakeSlice (P : Program) (s : ASt) (d : Nat) (t : TypeId) (l c : AVal) : Option ASt :=
  match ti P t with
  | some ⟨_, _, _, _, .slice e⟩ => match ti P e with
    | some ei => match l, c with
      | .flat (.int _ l), .flat (.int _ c) =>
        if 0 ≤ l ∧ l ≤ c ∧ c ≤ 9223372036854775807 ∧ c * ei.bytes ≤ 281474976710656 ∧ ei.zero.length = ei.size ∧ ei.size ≠ 0 then
          s.new d ei.size ((List.replicate l.toNat ei.zero).flatten) (.own (s.gh.nm d) s.gen 0 l.toNat) else none
      | _, _ => none
    | none => none
  | _ => none

def abuildSlice [GL] (P : Program) (s : ASt) (d : Nat) (t : TypeId) (len : Nat) (parts : List (Nat × Operand)) : Option ASt :=
  match ti P t with
  | some ⟨_, _, _, _, .slice e⟩ => match ti P e with
    | some ei => if len * ei.size ≤ 16777216 ∧ ei.zero.length = ei.size ∧ ei.size ≠ 0 then
        match afill (fun i => some (i * ei.size, ei.size)) ((List.replicate len ei.zero).flatten) (parts.map fun p => (p.1, s.eval p.2)) with
        | some cs => s.new d ei.size cs (.own (s.gh.nm d) s.gen 0 len)
        | none => none
        else none
    | none => none
  | _ => none

def aalloc (P : Program) (s : ASt) (d : Nat) (t : TypeId) : Option ASt :=
  match ti P t with
  | some i => s.new d i.size i.zero (.ptr (s.gh.nm d) s.gen 0)
  | none => none
def abox (P : Program) (s : ASt) (d : Nat) (t : TypeId) (x : AVal) : Option ASt :=
  match ti P t with
  | some i => match cellsOf x with
    | some vs => s.new d i.size vs (.ptr (s.gh.nm d) s.gen 0)
    | none => none
  | none => none
/-- operations that write, or make memory -/
def aeff [GL] (P : Program) (s : ASt) (o : Oper) : Option ASt :=
  match o.op, o.dst with
  | .alloc t, some d => aalloc P s d t
  | .box t x, some d => abox P s d t (s.eval x)
  | .makeSlice t l c, some d => amakeSlice P s d t (s.eval l) (s.eval c)
  | .buildSlice t len parts, some d => abuildSlice P s d t len parts.toList
  | .store t x v, none => astore P s t (s.eval x) (s.eval v)
  | .call ⟨.builtin .append, args, ats⟩, some d => match args.toList, ats.toList with
    | [x, y], [t, u] => match ti P u with
      | some _ => if t = u then aappend P s d t (s.eval x) (s.eval y) else none
      | none => none
    | _, _ => none
  | .call ⟨.builtin .copy, args, ats⟩, some d => match args.toList, ats.toList with
    | [x, y], [t, _] => acopy P s d t (s.eval x) (s.eval y)
    | _, _ => none
  | .call ⟨.builtin .clear, args, ats⟩, none => match args.toList, ats.toList with
    | [x], [t] => aclear P s t (s.eval x)
    | _, _ => none
  | _, _ => none

/-- new memory that nobody writes -/
def isFz (s : ASt) (o : Oper) : Bool :=
  match o.op, o.dst with
  | .box _ _, some d => s.gh.fz d
  | .buildSlice _ _ _, some d => s.gh.fz d
  | _, _ => false
def afrozB [GL] (P : Program) (s : ASt) (t : TypeId) (len : Nat) (parts : List (Nat × Operand)) : Option AVal :=
  match ti P t with
  | some ⟨_, _, _, _, .slice e⟩ => match ti P e with
    | some ei => if len * ei.size ≤ 16777216 ∧ ei.zero.length = ei.size ∧ ei.size ≠ 0 then
        match afill (fun i => some (i * ei.size, ei.size)) ((List.replicate len ei.zero).flatten) (parts.map fun p => (p.1, s.eval p.2)) with
        | some cs => some (.lst cs len)
        | none => none
        else none
    | none => none
  | _ => none
def afroz [GL] (P : Program) (s : ASt) (o : Oper) : Option AVal :=
  match o.op with
  | .box _ x => match cellsOf (s.eval x) with
    | some vs => some (.iptr vs 0)
    | none => none
  | .buildSlice t len parts => afrozB P s t len parts.toList
  | _ => none
def isEff (o : Oper) : Bool :=
  match o.op with
  | .alloc _ | .box _ _ | .makeSlice _ _ _ | .buildSlice _ _ _ | .store _ _ _ | .call ⟨.builtin .append, _, _⟩ | .call ⟨.builtin .copy, _, _⟩ | .call ⟨.builtin .clear, _, _⟩ => true
  | _ => false

/-- what a slice or pointer of the function's own reads as, as a tree -/
def snap : Nat → ASt → AVal → Option AVal
  | 0, _, _ => none
  | k + 1, s, v => match v with
    | .own β g off n => match blkOf s β g with
      | some blk => if off + n * blk.size ≤ blk.cells.length then
          (if treeL ((blk.cells.drop off).take (n * blk.size)) then some (.lst ((blk.cells.drop off).take (n * blk.size)) n)
           else match ((blk.cells.drop off).take (n * blk.size)).mapM (snap k s) with
            | some l => some (.lst l n)
            | none => none)
          else none
      | none => none
    | .ptr β g off => match blkOf s β g with
      | some blk => (if treeL blk.cells then some (.iptr blk.cells off)
           else match blk.cells.mapM (snap k s) with
            | some l => some (.iptr l off)
            | none => none)
      | none => none
    | .agg cs => match cs.mapM (snap k s) with
      | some l => some (.agg l)
      | none => none
    | .tup cs => match cs.mapM (snap k s) with
      | some l => some (.tup l)
      | none => none
    | .clo f cs => match cs.mapM (snap k s) with
      | some l => some (.clo f l)
      | none => none
    | .bnd f cs => match cs.mapM (snap k s) with
      | some l => some (.bnd f l)
      | none => none
    | .nl => some (.lst [] 0)
    | .dead => none
    | v => if v.tree then some v else none

end
end Go.Own
