/-
  OWN WORK, printed by program: the types of this seat, as the walk over abstract states asks for them.
-/
import Derived.Test.YtiaemddmkmfijaaChecked
import Derived.Test.YtiaemddmkmfijaaOwnM
namespace Go.Proofs.Ytiaemddmkmfijaa
open Go Go.Own Go.Proofs
instance : GL := ⟨[], by simp, [], []⟩
theorem noGlobs (E : Env) : Globs E := fun p hp => by simp [globPins, GL.tab, GL.ex, GL.shp] at hp
theorem aalloc_of {P : Program} {t : TypeId} {i : TI} (h : ti P t = some i) (s : ASt) (d : Nat) : aalloc P s d t = s.new d i.size i.zero (.ptr (s.gh.nm d) s.gen 0) := by unfold aalloc; rw [h]
theorem abox_of {P : Program} {t : TypeId} {i : TI} (h : ti P t = some i) (s : ASt) (d : Nat) (x : AVal) : abox P s d t x = (match cellsOf x with | some vs => s.new d i.size vs (.ptr (s.gh.nm d) s.gen 0) | none => none) := by unfold abox; rw [h]; cases cellsOf x <;> rfl
theorem ti1 : ti Try.prog 1 = some ⟨1, false, 8, [.flat .nilFunc], .none⟩ := (ti_eq _ _).trans (by kernel_rfl)
theorem al1 (s : ASt) (d : Nat) : aalloc Try.prog s d 1 = s.new d 1 [.flat .nilFunc] (.ptr (s.gh.nm d) s.gen 0) := aalloc_of ti1 s d
theorem bx1 (s : ASt) (d : Nat) (x : AVal) : abox Try.prog s d 1 x = (match cellsOf x with | some vs => s.new d 1 vs (.ptr (s.gh.nm d) s.gen 0) | none => none) := abox_of ti1 s d x
theorem ti2 : ti Try.prog 2 = some ⟨1, false, 8, [.flat (.int .i64 0)], .none⟩ := (ti_eq _ _).trans (by kernel_rfl)
theorem al2 (s : ASt) (d : Nat) : aalloc Try.prog s d 2 = s.new d 1 [.flat (.int .i64 0)] (.ptr (s.gh.nm d) s.gen 0) := aalloc_of ti2 s d
theorem bx2 (s : ASt) (d : Nat) (x : AVal) : abox Try.prog s d 2 x = (match cellsOf x with | some vs => s.new d 1 vs (.ptr (s.gh.nm d) s.gen 0) | none => none) := abox_of ti2 s d x
theorem ti3 : ti Try.prog 3 = some ⟨1, false, 8, [.flat (.int .i64 0)], .none⟩ := (ti_eq _ _).trans (by kernel_rfl)
theorem al3 (s : ASt) (d : Nat) : aalloc Try.prog s d 3 = s.new d 1 [.flat (.int .i64 0)] (.ptr (s.gh.nm d) s.gen 0) := aalloc_of ti3 s d
theorem bx3 (s : ASt) (d : Nat) (x : AVal) : abox Try.prog s d 3 x = (match cellsOf x with | some vs => s.new d 1 vs (.ptr (s.gh.nm d) s.gen 0) | none => none) := abox_of ti3 s d x
theorem ti4 : ti Try.prog 4 = some ⟨1, false, 1, [.flat (.bool false)], .none⟩ := (ti_eq _ _).trans (by kernel_rfl)
theorem al4 (s : ASt) (d : Nat) : aalloc Try.prog s d 4 = s.new d 1 [.flat (.bool false)] (.ptr (s.gh.nm d) s.gen 0) := aalloc_of ti4 s d
theorem bx4 (s : ASt) (d : Nat) (x : AVal) : abox Try.prog s d 4 x = (match cellsOf x with | some vs => s.new d 1 vs (.ptr (s.gh.nm d) s.gen 0) | none => none) := abox_of ti4 s d x
theorem ti5 : ti Try.prog 5 = some ⟨1, false, 1, [.flat (.int .u8 0)], .none⟩ := (ti_eq _ _).trans (by kernel_rfl)
theorem al5 (s : ASt) (d : Nat) : aalloc Try.prog s d 5 = s.new d 1 [.flat (.int .u8 0)] (.ptr (s.gh.nm d) s.gen 0) := aalloc_of ti5 s d
theorem bx5 (s : ASt) (d : Nat) (x : AVal) : abox Try.prog s d 5 x = (match cellsOf x with | some vs => s.new d 1 vs (.ptr (s.gh.nm d) s.gen 0) | none => none) := abox_of ti5 s d x
theorem ti9 : ti Try.prog 9 = some ⟨1, false, 16, [.flat (.string ByteArray.empty)], .str⟩ := (ti_eq _ _).trans (by kernel_rfl)
theorem al9 (s : ASt) (d : Nat) : aalloc Try.prog s d 9 = s.new d 1 [.flat (.string ByteArray.empty)] (.ptr (s.gh.nm d) s.gen 0) := aalloc_of ti9 s d
theorem bx9 (s : ASt) (d : Nat) (x : AVal) : abox Try.prog s d 9 x = (match cellsOf x with | some vs => s.new d 1 vs (.ptr (s.gh.nm d) s.gen 0) | none => none) := abox_of ti9 s d x
theorem ti12 : ti Try.prog 12 = some ⟨1, false, 8, [.flat (.int .u64 0)], .none⟩ := (ti_eq _ _).trans (by kernel_rfl)
theorem al12 (s : ASt) (d : Nat) : aalloc Try.prog s d 12 = s.new d 1 [.flat (.int .u64 0)] (.ptr (s.gh.nm d) s.gen 0) := aalloc_of ti12 s d
theorem bx12 (s : ASt) (d : Nat) (x : AVal) : abox Try.prog s d 12 x = (match cellsOf x with | some vs => s.new d 1 vs (.ptr (s.gh.nm d) s.gen 0) | none => none) := abox_of ti12 s d x
theorem ti21 : ti Try.prog 21 = some ⟨1, false, 4, [.flat (.int .i32 0)], .none⟩ := (ti_eq _ _).trans (by kernel_rfl)
theorem al21 (s : ASt) (d : Nat) : aalloc Try.prog s d 21 = s.new d 1 [.flat (.int .i32 0)] (.ptr (s.gh.nm d) s.gen 0) := aalloc_of ti21 s d
theorem bx21 (s : ASt) (d : Nat) (x : AVal) : abox Try.prog s d 21 x = (match cellsOf x with | some vs => s.new d 1 vs (.ptr (s.gh.nm d) s.gen 0) | none => none) := abox_of ti21 s d x
theorem ti22 : ti Try.prog 22 = some ⟨1, false, 24, [.nl], .slice 5⟩ := (ti_eq _ _).trans (by kernel_rfl)
theorem al22 (s : ASt) (d : Nat) : aalloc Try.prog s d 22 = s.new d 1 [.nl] (.ptr (s.gh.nm d) s.gen 0) := aalloc_of ti22 s d
theorem bx22 (s : ASt) (d : Nat) (x : AVal) : abox Try.prog s d 22 x = (match cellsOf x with | some vs => s.new d 1 vs (.ptr (s.gh.nm d) s.gen 0) | none => none) := abox_of ti22 s d x
theorem ti24 : ti Try.prog 24 = some ⟨1, false, 24, [.nl], .slice 2⟩ := (ti_eq _ _).trans (by kernel_rfl)
theorem al24 (s : ASt) (d : Nat) : aalloc Try.prog s d 24 = s.new d 1 [.nl] (.ptr (s.gh.nm d) s.gen 0) := aalloc_of ti24 s d
theorem bx24 (s : ASt) (d : Nat) (x : AVal) : abox Try.prog s d 24 x = (match cellsOf x with | some vs => s.new d 1 vs (.ptr (s.gh.nm d) s.gen 0) | none => none) := abox_of ti24 s d x
theorem ti25 : ti Try.prog 25 = some ⟨4, true, 72, [.flat (.string ByteArray.empty), .flat (.int .i64 0), .nl, .nl], .struct [(0, 9), (1, 2), (2, 24), (3, 24)]⟩ := (ti_eq _ _).trans (by kernel_rfl)
theorem al25 (s : ASt) (d : Nat) : aalloc Try.prog s d 25 = s.new d 4 [.flat (.string ByteArray.empty), .flat (.int .i64 0), .nl, .nl] (.ptr (s.gh.nm d) s.gen 0) := aalloc_of ti25 s d
theorem bx25 (s : ASt) (d : Nat) (x : AVal) : abox Try.prog s d 25 x = (match cellsOf x with | some vs => s.new d 4 vs (.ptr (s.gh.nm d) s.gen 0) | none => none) := abox_of ti25 s d x
theorem ti26 : ti Try.prog 26 = some ⟨4, true, 72, [.flat (.string ByteArray.empty), .flat (.int .i64 0), .nl, .nl], .struct [(0, 9), (1, 2), (2, 24), (3, 24)]⟩ := (ti_eq _ _).trans (by kernel_rfl)
theorem al26 (s : ASt) (d : Nat) : aalloc Try.prog s d 26 = s.new d 4 [.flat (.string ByteArray.empty), .flat (.int .i64 0), .nl, .nl] (.ptr (s.gh.nm d) s.gen 0) := aalloc_of ti26 s d
theorem bx26 (s : ASt) (d : Nat) (x : AVal) : abox Try.prog s d 26 x = (match cellsOf x with | some vs => s.new d 4 vs (.ptr (s.gh.nm d) s.gen 0) | none => none) := abox_of ti26 s d x
theorem ti39 : ti Try.prog 39 = some ⟨1, false, 8, [.flat (.pointer none)], .none⟩ := (ti_eq _ _).trans (by kernel_rfl)
theorem al39 (s : ASt) (d : Nat) : aalloc Try.prog s d 39 = s.new d 1 [.flat (.pointer none)] (.ptr (s.gh.nm d) s.gen 0) := aalloc_of ti39 s d
theorem bx39 (s : ASt) (d : Nat) (x : AVal) : abox Try.prog s d 39 x = (match cellsOf x with | some vs => s.new d 1 vs (.ptr (s.gh.nm d) s.gen 0) | none => none) := abox_of ti39 s d x
theorem ti42 : ti Try.prog 42 = some ⟨1, false, 8, [.flat .nilFunc], .none⟩ := (ti_eq _ _).trans (by kernel_rfl)
theorem al42 (s : ASt) (d : Nat) : aalloc Try.prog s d 42 = s.new d 1 [.flat .nilFunc] (.ptr (s.gh.nm d) s.gen 0) := aalloc_of ti42 s d
theorem bx42 (s : ASt) (d : Nat) (x : AVal) : abox Try.prog s d 42 x = (match cellsOf x with | some vs => s.new d 1 vs (.ptr (s.gh.nm d) s.gen 0) | none => none) := abox_of ti42 s d x
theorem ti47 : ti Try.prog 47 = some ⟨1, false, 24, [.nl], .slice 9⟩ := (ti_eq _ _).trans (by kernel_rfl)
theorem al47 (s : ASt) (d : Nat) : aalloc Try.prog s d 47 = s.new d 1 [.nl] (.ptr (s.gh.nm d) s.gen 0) := aalloc_of ti47 s d
theorem bx47 (s : ASt) (d : Nat) (x : AVal) : abox Try.prog s d 47 x = (match cellsOf x with | some vs => s.new d 1 vs (.ptr (s.gh.nm d) s.gen 0) | none => none) := abox_of ti47 s d x
theorem ti49 : ti Try.prog 49 = some ⟨1, false, 8, [.flat .nilFunc], .none⟩ := (ti_eq _ _).trans (by kernel_rfl)
theorem al49 (s : ASt) (d : Nat) : aalloc Try.prog s d 49 = s.new d 1 [.flat .nilFunc] (.ptr (s.gh.nm d) s.gen 0) := aalloc_of ti49 s d
theorem bx49 (s : ASt) (d : Nat) (x : AVal) : abox Try.prog s d 49 x = (match cellsOf x with | some vs => s.new d 1 vs (.ptr (s.gh.nm d) s.gen 0) | none => none) := abox_of ti49 s d x
theorem ti50 : ti Try.prog 50 = some ⟨1, false, 8, [.flat .nilFunc], .none⟩ := (ti_eq _ _).trans (by kernel_rfl)
theorem al50 (s : ASt) (d : Nat) : aalloc Try.prog s d 50 = s.new d 1 [.flat .nilFunc] (.ptr (s.gh.nm d) s.gen 0) := aalloc_of ti50 s d
theorem bx50 (s : ASt) (d : Nat) (x : AVal) : abox Try.prog s d 50 x = (match cellsOf x with | some vs => s.new d 1 vs (.ptr (s.gh.nm d) s.gen 0) | none => none) := abox_of ti50 s d x
theorem ti52 : ti Try.prog 52 = some ⟨1, false, 8, [.flat (.int .u64 0)], .none⟩ := (ti_eq _ _).trans (by kernel_rfl)
theorem al52 (s : ASt) (d : Nat) : aalloc Try.prog s d 52 = s.new d 1 [.flat (.int .u64 0)] (.ptr (s.gh.nm d) s.gen 0) := aalloc_of ti52 s d
theorem bx52 (s : ASt) (d : Nat) (x : AVal) : abox Try.prog s d 52 x = (match cellsOf x with | some vs => s.new d 1 vs (.ptr (s.gh.nm d) s.gen 0) | none => none) := abox_of ti52 s d x
theorem ti53 : ti Try.prog 53 = some ⟨3, true, 40, [.nl, .flat (.int .i64 0), .flat (.int .u64 0)], .struct [(0, 22), (1, 3), (2, 52)]⟩ := (ti_eq _ _).trans (by kernel_rfl)
theorem al53 (s : ASt) (d : Nat) : aalloc Try.prog s d 53 = s.new d 3 [.nl, .flat (.int .i64 0), .flat (.int .u64 0)] (.ptr (s.gh.nm d) s.gen 0) := aalloc_of ti53 s d
theorem bx53 (s : ASt) (d : Nat) (x : AVal) : abox Try.prog s d 53 x = (match cellsOf x with | some vs => s.new d 3 vs (.ptr (s.gh.nm d) s.gen 0) | none => none) := abox_of ti53 s d x
theorem ti54 : ti Try.prog 54 = some ⟨3, true, 40, [.nl, .flat (.int .i64 0), .flat (.int .u64 0)], .struct [(0, 22), (1, 3), (2, 52)]⟩ := (ti_eq _ _).trans (by kernel_rfl)
theorem al54 (s : ASt) (d : Nat) : aalloc Try.prog s d 54 = s.new d 3 [.nl, .flat (.int .i64 0), .flat (.int .u64 0)] (.ptr (s.gh.nm d) s.gen 0) := aalloc_of ti54 s d
theorem bx54 (s : ASt) (d : Nat) (x : AVal) : abox Try.prog s d 54 x = (match cellsOf x with | some vs => s.new d 3 vs (.ptr (s.gh.nm d) s.gen 0) | none => none) := abox_of ti54 s d x
theorem ti60 : ti Try.prog 60 = some ⟨1, false, 8, [.flat (.int .u64 0)], .none⟩ := (ti_eq _ _).trans (by kernel_rfl)
theorem al60 (s : ASt) (d : Nat) : aalloc Try.prog s d 60 = s.new d 1 [.flat (.int .u64 0)] (.ptr (s.gh.nm d) s.gen 0) := aalloc_of ti60 s d
theorem bx60 (s : ASt) (d : Nat) (x : AVal) : abox Try.prog s d 60 x = (match cellsOf x with | some vs => s.new d 1 vs (.ptr (s.gh.nm d) s.gen 0) | none => none) := abox_of ti60 s d x
theorem ti66 : ti Try.prog 66 = some ⟨0, true, 0, [], .array 0 16⟩ := (ti_eq _ _).trans (by kernel_rfl)
theorem al66 (s : ASt) (d : Nat) : aalloc Try.prog s d 66 = s.new d 0 [] (.ptr (s.gh.nm d) s.gen 0) := aalloc_of ti66 s d
theorem bx66 (s : ASt) (d : Nat) (x : AVal) : abox Try.prog s d 66 x = (match cellsOf x with | some vs => s.new d 0 vs (.ptr (s.gh.nm d) s.gen 0) | none => none) := abox_of ti66 s d x
theorem ti70 : ti Try.prog 70 = some ⟨1, false, 4, [.flat (.int .u32 0)], .none⟩ := (ti_eq _ _).trans (by kernel_rfl)
theorem al70 (s : ASt) (d : Nat) : aalloc Try.prog s d 70 = s.new d 1 [.flat (.int .u32 0)] (.ptr (s.gh.nm d) s.gen 0) := aalloc_of ti70 s d
theorem bx70 (s : ASt) (d : Nat) (x : AVal) : abox Try.prog s d 70 x = (match cellsOf x with | some vs => s.new d 1 vs (.ptr (s.gh.nm d) s.gen 0) | none => none) := abox_of ti70 s d x
theorem ti74 : ti Try.prog 74 = some ⟨1, false, 8, [.flat (.pointer none)], .none⟩ := (ti_eq _ _).trans (by kernel_rfl)
theorem al74 (s : ASt) (d : Nat) : aalloc Try.prog s d 74 = s.new d 1 [.flat (.pointer none)] (.ptr (s.gh.nm d) s.gen 0) := aalloc_of ti74 s d
theorem bx74 (s : ASt) (d : Nat) (x : AVal) : abox Try.prog s d 74 x = (match cellsOf x with | some vs => s.new d 1 vs (.ptr (s.gh.nm d) s.gen 0) | none => none) := abox_of ti74 s d x
theorem ti77 : ti Try.prog 77 = some ⟨11, true, 48, [.flat (.int .u64 0), .flat (.int .u64 0), .flat (.int .u32 0), .flat (.int .u8 0), .flat (.int .u8 0), .flat (.int .u8 0), .flat (.int .u8 0), .flat .nilFunc, .flat (.pointer none), .flat (.int .i32 0), .flat (.int .i32 0)], .struct [(0, 12), (1, 12), (2, 70), (3, 71), (4, 5), (5, 5), (6, 72), (7, 73), (8, 74), (9, 75), (10, 76)]⟩ := (ti_eq _ _).trans (by kernel_rfl)
theorem al77 (s : ASt) (d : Nat) : aalloc Try.prog s d 77 = s.new d 11 [.flat (.int .u64 0), .flat (.int .u64 0), .flat (.int .u32 0), .flat (.int .u8 0), .flat (.int .u8 0), .flat (.int .u8 0), .flat (.int .u8 0), .flat .nilFunc, .flat (.pointer none), .flat (.int .i32 0), .flat (.int .i32 0)] (.ptr (s.gh.nm d) s.gen 0) := aalloc_of ti77 s d
theorem bx77 (s : ASt) (d : Nat) (x : AVal) : abox Try.prog s d 77 x = (match cellsOf x with | some vs => s.new d 11 vs (.ptr (s.gh.nm d) s.gen 0) | none => none) := abox_of ti77 s d x
theorem sem_neB (x y : Operand) (p q : Bool) : semS Try.prog (do eqGuard .neq 4 x y (.bool p) (.bool q); binOp .neq 4 (.bool p) (.bool q)) = some (.flat (.bool (!(p == q)))) := sem_neb Try.prog x y p q (by kernel_rfl)
theorem sem_eqB (x y : Operand) (p q : Bool) : semS Try.prog (do eqGuard .eql 4 x y (.bool p) (.bool q); binOp .eql 4 (.bool p) (.bool q)) = some (.flat (.bool (p == q))) := sem_eqb Try.prog x y p q (by kernel_rfl)
theorem tabS : type_of% (And.intro (And.intro (And.intro (And.intro (And.intro (And.intro @ti1 @al1) (And.intro @bx1 @ti2)) (And.intro (And.intro @al2 @bx2) (And.intro @ti3 (And.intro @al3 @bx3)))) (And.intro (And.intro (And.intro @ti4 @al4) (And.intro @bx4 (And.intro @ti5 @al5))) (And.intro (And.intro @bx5 @ti9) (And.intro @al9 (And.intro @bx9 @ti12))))) (And.intro (And.intro (And.intro (And.intro @al12 @bx12) (And.intro @ti21 @al21)) (And.intro (And.intro @bx21 @ti22) (And.intro @al22 (And.intro @bx22 @ti24)))) (And.intro (And.intro (And.intro @al24 @bx24) (And.intro @ti25 (And.intro @al25 @bx25))) (And.intro (And.intro @ti26 @al26) (And.intro @bx26 (And.intro @ti39 @al39)))))) (And.intro (And.intro (And.intro (And.intro (And.intro @bx39 @ti42) (And.intro @al42 @bx42)) (And.intro (And.intro @ti47 @al47) (And.intro @bx47 (And.intro @ti49 @al49)))) (And.intro (And.intro (And.intro @bx49 @ti50) (And.intro @al50 (And.intro @bx50 @ti52))) (And.intro (And.intro @al52 @bx52) (And.intro @ti53 (And.intro @al53 @bx53))))) (And.intro (And.intro (And.intro (And.intro @ti54 @al54) (And.intro @bx54 (And.intro @ti60 @al60))) (And.intro (And.intro @bx60 @ti66) (And.intro @al66 (And.intro @bx66 @ti70)))) (And.intro (And.intro (And.intro @al70 @bx70) (And.intro @ti74 (And.intro @al74 @bx74))) (And.intro (And.intro @ti77 @al77) (And.intro @bx77 (And.intro @sem_neB @sem_eqB))))))) := (And.intro (And.intro (And.intro (And.intro (And.intro (And.intro @ti1 @al1) (And.intro @bx1 @ti2)) (And.intro (And.intro @al2 @bx2) (And.intro @ti3 (And.intro @al3 @bx3)))) (And.intro (And.intro (And.intro @ti4 @al4) (And.intro @bx4 (And.intro @ti5 @al5))) (And.intro (And.intro @bx5 @ti9) (And.intro @al9 (And.intro @bx9 @ti12))))) (And.intro (And.intro (And.intro (And.intro @al12 @bx12) (And.intro @ti21 @al21)) (And.intro (And.intro @bx21 @ti22) (And.intro @al22 (And.intro @bx22 @ti24)))) (And.intro (And.intro (And.intro @al24 @bx24) (And.intro @ti25 (And.intro @al25 @bx25))) (And.intro (And.intro @ti26 @al26) (And.intro @bx26 (And.intro @ti39 @al39)))))) (And.intro (And.intro (And.intro (And.intro (And.intro @bx39 @ti42) (And.intro @al42 @bx42)) (And.intro (And.intro @ti47 @al47) (And.intro @bx47 (And.intro @ti49 @al49)))) (And.intro (And.intro (And.intro @bx49 @ti50) (And.intro @al50 (And.intro @bx50 @ti52))) (And.intro (And.intro @al52 @bx52) (And.intro @ti53 (And.intro @al53 @bx53))))) (And.intro (And.intro (And.intro (And.intro @ti54 @al54) (And.intro @bx54 (And.intro @ti60 @al60))) (And.intro (And.intro @bx60 @ti66) (And.intro @al66 (And.intro @bx66 @ti70)))) (And.intro (And.intro (And.intro @al70 @bx70) (And.intro @ti74 (And.intro @al74 @bx74))) (And.intro (And.intro @ti77 @al77) (And.intro @bx77 (And.intro @sem_neB @sem_eqB)))))))
theorem mixed : Try.prog.follows .mixedOrders = true := by kernel_rfl
theorem laidOut : laidOutB Try.prog = true := by kernel_rfl
theorem ownK : ownKnob Try.prog.godebug = none := by kernel_rfl
end Go.Proofs.Ytiaemddmkmfijaa
