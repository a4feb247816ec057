/-
  OWN WORK, printed by program: the types of this seat, as the walk over abstract states asks for them.
-/
import Derived.Test.YtkmhoebopfgpdaaChecked
import Derived.Test.YtkmhoebopfgpdaaOwnM
namespace Go.Proofs.Ytkmhoebopfgpdaa
open Go Go.Own Go.Proofs
instance : GL := ⟨[], by simp, [], []⟩
theorem noGlobs (E : Env) : Globs E := fun p hp => by simp [globPins, GL.tab, GL.ex, GL.shp] at hp
theorem aalloc_of {P : Program} {t : TypeId} {i : TI} (h : ti P t = some i) (s : ASt) (d : Nat) : aalloc P s d t = s.new d i.size i.zero (.ptr (s.gh.nm d) s.gen 0) := by unfold aalloc; rw [h]
theorem abox_of {P : Program} {t : TypeId} {i : TI} (h : ti P t = some i) (s : ASt) (d : Nat) (x : AVal) : abox P s d t x = (match cellsOf x with | some vs => s.new d i.size vs (.ptr (s.gh.nm d) s.gen 0) | none => none) := by unfold abox; rw [h]; cases cellsOf x <;> rfl
theorem ti1 : ti Try.prog 1 = some ⟨1, false, 8, [.flat .nilFunc], .none⟩ := (ti_eq _ _).trans (by kernel_rfl)
theorem al1 (s : ASt) (d : Nat) : aalloc Try.prog s d 1 = s.new d 1 [.flat .nilFunc] (.ptr (s.gh.nm d) s.gen 0) := aalloc_of ti1 s d
theorem bx1 (s : ASt) (d : Nat) (x : AVal) : abox Try.prog s d 1 x = (match cellsOf x with | some vs => s.new d 1 vs (.ptr (s.gh.nm d) s.gen 0) | none => none) := abox_of ti1 s d x
theorem ti2 : ti Try.prog 2 = some ⟨1, false, 8, [.flat (.int .i64 0)], .none⟩ := (ti_eq _ _).trans (by kernel_rfl)
theorem al2 (s : ASt) (d : Nat) : aalloc Try.prog s d 2 = s.new d 1 [.flat (.int .i64 0)] (.ptr (s.gh.nm d) s.gen 0) := aalloc_of ti2 s d
theorem bx2 (s : ASt) (d : Nat) (x : AVal) : abox Try.prog s d 2 x = (match cellsOf x with | some vs => s.new d 1 vs (.ptr (s.gh.nm d) s.gen 0) | none => none) := abox_of ti2 s d x
theorem ti3 : ti Try.prog 3 = some ⟨1, false, 8, [.flat (.int .i64 0)], .none⟩ := (ti_eq _ _).trans (by kernel_rfl)
theorem al3 (s : ASt) (d : Nat) : aalloc Try.prog s d 3 = s.new d 1 [.flat (.int .i64 0)] (.ptr (s.gh.nm d) s.gen 0) := aalloc_of ti3 s d
theorem bx3 (s : ASt) (d : Nat) (x : AVal) : abox Try.prog s d 3 x = (match cellsOf x with | some vs => s.new d 1 vs (.ptr (s.gh.nm d) s.gen 0) | none => none) := abox_of ti3 s d x
theorem ti4 : ti Try.prog 4 = some ⟨1, false, 1, [.flat (.bool false)], .none⟩ := (ti_eq _ _).trans (by kernel_rfl)
theorem al4 (s : ASt) (d : Nat) : aalloc Try.prog s d 4 = s.new d 1 [.flat (.bool false)] (.ptr (s.gh.nm d) s.gen 0) := aalloc_of ti4 s d
theorem bx4 (s : ASt) (d : Nat) (x : AVal) : abox Try.prog s d 4 x = (match cellsOf x with | some vs => s.new d 1 vs (.ptr (s.gh.nm d) s.gen 0) | none => none) := abox_of ti4 s d x
theorem ti5 : ti Try.prog 5 = some ⟨1, false, 1, [.flat (.int .u8 0)], .none⟩ := (ti_eq _ _).trans (by kernel_rfl)
theorem al5 (s : ASt) (d : Nat) : aalloc Try.prog s d 5 = s.new d 1 [.flat (.int .u8 0)] (.ptr (s.gh.nm d) s.gen 0) := aalloc_of ti5 s d
theorem bx5 (s : ASt) (d : Nat) (x : AVal) : abox Try.prog s d 5 x = (match cellsOf x with | some vs => s.new d 1 vs (.ptr (s.gh.nm d) s.gen 0) | none => none) := abox_of ti5 s d x
theorem ti9 : ti Try.prog 9 = some ⟨1, false, 16, [.flat (.string ByteArray.empty)], .str⟩ := (ti_eq _ _).trans (by kernel_rfl)
theorem al9 (s : ASt) (d : Nat) : aalloc Try.prog s d 9 = s.new d 1 [.flat (.string ByteArray.empty)] (.ptr (s.gh.nm d) s.gen 0) := aalloc_of ti9 s d
theorem bx9 (s : ASt) (d : Nat) (x : AVal) : abox Try.prog s d 9 x = (match cellsOf x with | some vs => s.new d 1 vs (.ptr (s.gh.nm d) s.gen 0) | none => none) := abox_of ti9 s d x
theorem ti12 : ti Try.prog 12 = some ⟨1, false, 8, [.flat (.int .u64 0)], .none⟩ := (ti_eq _ _).trans (by kernel_rfl)
theorem al12 (s : ASt) (d : Nat) : aalloc Try.prog s d 12 = s.new d 1 [.flat (.int .u64 0)] (.ptr (s.gh.nm d) s.gen 0) := aalloc_of ti12 s d
theorem bx12 (s : ASt) (d : Nat) (x : AVal) : abox Try.prog s d 12 x = (match cellsOf x with | some vs => s.new d 1 vs (.ptr (s.gh.nm d) s.gen 0) | none => none) := abox_of ti12 s d x
theorem ti21 : ti Try.prog 21 = some ⟨1, false, 4, [.flat (.int .i32 0)], .none⟩ := (ti_eq _ _).trans (by kernel_rfl)
theorem al21 (s : ASt) (d : Nat) : aalloc Try.prog s d 21 = s.new d 1 [.flat (.int .i32 0)] (.ptr (s.gh.nm d) s.gen 0) := aalloc_of ti21 s d
theorem bx21 (s : ASt) (d : Nat) (x : AVal) : abox Try.prog s d 21 x = (match cellsOf x with | some vs => s.new d 1 vs (.ptr (s.gh.nm d) s.gen 0) | none => none) := abox_of ti21 s d x
theorem ti22 : ti Try.prog 22 = some ⟨1, false, 24, [.nl], .slice 5⟩ := (ti_eq _ _).trans (by kernel_rfl)
theorem al22 (s : ASt) (d : Nat) : aalloc Try.prog s d 22 = s.new d 1 [.nl] (.ptr (s.gh.nm d) s.gen 0) := aalloc_of ti22 s d
theorem bx22 (s : ASt) (d : Nat) (x : AVal) : abox Try.prog s d 22 x = (match cellsOf x with | some vs => s.new d 1 vs (.ptr (s.gh.nm d) s.gen 0) | none => none) := abox_of ti22 s d x
theorem ti24 : ti Try.prog 24 = some ⟨1, false, 24, [.nl], .slice 27⟩ := (ti_eq _ _).trans (by kernel_rfl)
theorem al24 (s : ASt) (d : Nat) : aalloc Try.prog s d 24 = s.new d 1 [.nl] (.ptr (s.gh.nm d) s.gen 0) := aalloc_of ti24 s d
theorem bx24 (s : ASt) (d : Nat) (x : AVal) : abox Try.prog s d 24 x = (match cellsOf x with | some vs => s.new d 1 vs (.ptr (s.gh.nm d) s.gen 0) | none => none) := abox_of ti24 s d x
theorem ti25 : ti Try.prog 25 = some ⟨2, true, 48, [.nl, .nl], .struct [(0, 24), (1, 24)]⟩ := (ti_eq _ _).trans (by kernel_rfl)
theorem al25 (s : ASt) (d : Nat) : aalloc Try.prog s d 25 = s.new d 2 [.nl, .nl] (.ptr (s.gh.nm d) s.gen 0) := aalloc_of ti25 s d
theorem bx25 (s : ASt) (d : Nat) (x : AVal) : abox Try.prog s d 25 x = (match cellsOf x with | some vs => s.new d 2 vs (.ptr (s.gh.nm d) s.gen 0) | none => none) := abox_of ti25 s d x
theorem ti26 : ti Try.prog 26 = some ⟨2, true, 48, [.nl, .nl], .struct [(0, 24), (1, 24)]⟩ := (ti_eq _ _).trans (by kernel_rfl)
theorem al26 (s : ASt) (d : Nat) : aalloc Try.prog s d 26 = s.new d 2 [.nl, .nl] (.ptr (s.gh.nm d) s.gen 0) := aalloc_of ti26 s d
theorem bx26 (s : ASt) (d : Nat) (x : AVal) : abox Try.prog s d 26 x = (match cellsOf x with | some vs => s.new d 2 vs (.ptr (s.gh.nm d) s.gen 0) | none => none) := abox_of ti26 s d x
theorem ti27 : ti Try.prog 27 = some ⟨1, false, 24, [.nl], .slice 2⟩ := (ti_eq _ _).trans (by kernel_rfl)
theorem al27 (s : ASt) (d : Nat) : aalloc Try.prog s d 27 = s.new d 1 [.nl] (.ptr (s.gh.nm d) s.gen 0) := aalloc_of ti27 s d
theorem bx27 (s : ASt) (d : Nat) (x : AVal) : abox Try.prog s d 27 x = (match cellsOf x with | some vs => s.new d 1 vs (.ptr (s.gh.nm d) s.gen 0) | none => none) := abox_of ti27 s d x
theorem ti47 : ti Try.prog 47 = some ⟨1, false, 8, [.flat (.pointer none)], .none⟩ := (ti_eq _ _).trans (by kernel_rfl)
theorem al47 (s : ASt) (d : Nat) : aalloc Try.prog s d 47 = s.new d 1 [.flat (.pointer none)] (.ptr (s.gh.nm d) s.gen 0) := aalloc_of ti47 s d
theorem bx47 (s : ASt) (d : Nat) (x : AVal) : abox Try.prog s d 47 x = (match cellsOf x with | some vs => s.new d 1 vs (.ptr (s.gh.nm d) s.gen 0) | none => none) := abox_of ti47 s d x
theorem ti54 : ti Try.prog 54 = some ⟨1, false, 8, [.flat .nilFunc], .none⟩ := (ti_eq _ _).trans (by kernel_rfl)
theorem al54 (s : ASt) (d : Nat) : aalloc Try.prog s d 54 = s.new d 1 [.flat .nilFunc] (.ptr (s.gh.nm d) s.gen 0) := aalloc_of ti54 s d
theorem bx54 (s : ASt) (d : Nat) (x : AVal) : abox Try.prog s d 54 x = (match cellsOf x with | some vs => s.new d 1 vs (.ptr (s.gh.nm d) s.gen 0) | none => none) := abox_of ti54 s d x
theorem ti63 : ti Try.prog 63 = some ⟨1, false, 8, [.flat .nilFunc], .none⟩ := (ti_eq _ _).trans (by kernel_rfl)
theorem al63 (s : ASt) (d : Nat) : aalloc Try.prog s d 63 = s.new d 1 [.flat .nilFunc] (.ptr (s.gh.nm d) s.gen 0) := aalloc_of ti63 s d
theorem bx63 (s : ASt) (d : Nat) (x : AVal) : abox Try.prog s d 63 x = (match cellsOf x with | some vs => s.new d 1 vs (.ptr (s.gh.nm d) s.gen 0) | none => none) := abox_of ti63 s d x
theorem ti67 : ti Try.prog 67 = some ⟨1, false, 8, [.flat .nilFunc], .none⟩ := (ti_eq _ _).trans (by kernel_rfl)
theorem al67 (s : ASt) (d : Nat) : aalloc Try.prog s d 67 = s.new d 1 [.flat .nilFunc] (.ptr (s.gh.nm d) s.gen 0) := aalloc_of ti67 s d
theorem bx67 (s : ASt) (d : Nat) (x : AVal) : abox Try.prog s d 67 x = (match cellsOf x with | some vs => s.new d 1 vs (.ptr (s.gh.nm d) s.gen 0) | none => none) := abox_of ti67 s d x
theorem ti69 : ti Try.prog 69 = some ⟨1, false, 8, [.flat (.pointer none)], .none⟩ := (ti_eq _ _).trans (by kernel_rfl)
theorem al69 (s : ASt) (d : Nat) : aalloc Try.prog s d 69 = s.new d 1 [.flat (.pointer none)] (.ptr (s.gh.nm d) s.gen 0) := aalloc_of ti69 s d
theorem bx69 (s : ASt) (d : Nat) (x : AVal) : abox Try.prog s d 69 x = (match cellsOf x with | some vs => s.new d 1 vs (.ptr (s.gh.nm d) s.gen 0) | none => none) := abox_of ti69 s d x
theorem ti79 : ti Try.prog 79 = some ⟨1, false, 8, [.flat .nilFunc], .none⟩ := (ti_eq _ _).trans (by kernel_rfl)
theorem al79 (s : ASt) (d : Nat) : aalloc Try.prog s d 79 = s.new d 1 [.flat .nilFunc] (.ptr (s.gh.nm d) s.gen 0) := aalloc_of ti79 s d
theorem bx79 (s : ASt) (d : Nat) (x : AVal) : abox Try.prog s d 79 x = (match cellsOf x with | some vs => s.new d 1 vs (.ptr (s.gh.nm d) s.gen 0) | none => none) := abox_of ti79 s d x
theorem ti80 : ti Try.prog 80 = some ⟨1, false, 8, [.flat (.int .u64 0)], .none⟩ := (ti_eq _ _).trans (by kernel_rfl)
theorem al80 (s : ASt) (d : Nat) : aalloc Try.prog s d 80 = s.new d 1 [.flat (.int .u64 0)] (.ptr (s.gh.nm d) s.gen 0) := aalloc_of ti80 s d
theorem bx80 (s : ASt) (d : Nat) (x : AVal) : abox Try.prog s d 80 x = (match cellsOf x with | some vs => s.new d 1 vs (.ptr (s.gh.nm d) s.gen 0) | none => none) := abox_of ti80 s d x
theorem ti81 : ti Try.prog 81 = some ⟨3, true, 40, [.nl, .flat (.int .i64 0), .flat (.int .u64 0)], .struct [(0, 22), (1, 3), (2, 80)]⟩ := (ti_eq _ _).trans (by kernel_rfl)
theorem al81 (s : ASt) (d : Nat) : aalloc Try.prog s d 81 = s.new d 3 [.nl, .flat (.int .i64 0), .flat (.int .u64 0)] (.ptr (s.gh.nm d) s.gen 0) := aalloc_of ti81 s d
theorem bx81 (s : ASt) (d : Nat) (x : AVal) : abox Try.prog s d 81 x = (match cellsOf x with | some vs => s.new d 3 vs (.ptr (s.gh.nm d) s.gen 0) | none => none) := abox_of ti81 s d x
theorem ti82 : ti Try.prog 82 = some ⟨3, true, 40, [.nl, .flat (.int .i64 0), .flat (.int .u64 0)], .struct [(0, 22), (1, 3), (2, 80)]⟩ := (ti_eq _ _).trans (by kernel_rfl)
theorem al82 (s : ASt) (d : Nat) : aalloc Try.prog s d 82 = s.new d 3 [.nl, .flat (.int .i64 0), .flat (.int .u64 0)] (.ptr (s.gh.nm d) s.gen 0) := aalloc_of ti82 s d
theorem bx82 (s : ASt) (d : Nat) (x : AVal) : abox Try.prog s d 82 x = (match cellsOf x with | some vs => s.new d 3 vs (.ptr (s.gh.nm d) s.gen 0) | none => none) := abox_of ti82 s d x
theorem ti85 : ti Try.prog 85 = some ⟨1, false, 8, [.flat (.pointer none)], .none⟩ := (ti_eq _ _).trans (by kernel_rfl)
theorem al85 (s : ASt) (d : Nat) : aalloc Try.prog s d 85 = s.new d 1 [.flat (.pointer none)] (.ptr (s.gh.nm d) s.gen 0) := aalloc_of ti85 s d
theorem bx85 (s : ASt) (d : Nat) (x : AVal) : abox Try.prog s d 85 x = (match cellsOf x with | some vs => s.new d 1 vs (.ptr (s.gh.nm d) s.gen 0) | none => none) := abox_of ti85 s d x
theorem ti86 : ti Try.prog 86 = some ⟨7, true, 104, [.flat (.pointer none), .nl, .nl, .nl, .flat (.int .i64 0), .flat (.int .i64 0), .flat (.bool false)], .struct [(0, 69), (1, 27), (2, 27), (3, 27), (4, 2), (5, 2), (6, 4)]⟩ := (ti_eq _ _).trans (by kernel_rfl)
theorem al86 (s : ASt) (d : Nat) : aalloc Try.prog s d 86 = s.new d 7 [.flat (.pointer none), .nl, .nl, .nl, .flat (.int .i64 0), .flat (.int .i64 0), .flat (.bool false)] (.ptr (s.gh.nm d) s.gen 0) := aalloc_of ti86 s d
theorem bx86 (s : ASt) (d : Nat) (x : AVal) : abox Try.prog s d 86 x = (match cellsOf x with | some vs => s.new d 7 vs (.ptr (s.gh.nm d) s.gen 0) | none => none) := abox_of ti86 s d x
theorem ti87 : ti Try.prog 87 = some ⟨7, true, 104, [.flat (.pointer none), .nl, .nl, .nl, .flat (.int .i64 0), .flat (.int .i64 0), .flat (.bool false)], .struct [(0, 69), (1, 27), (2, 27), (3, 27), (4, 2), (5, 2), (6, 4)]⟩ := (ti_eq _ _).trans (by kernel_rfl)
theorem al87 (s : ASt) (d : Nat) : aalloc Try.prog s d 87 = s.new d 7 [.flat (.pointer none), .nl, .nl, .nl, .flat (.int .i64 0), .flat (.int .i64 0), .flat (.bool false)] (.ptr (s.gh.nm d) s.gen 0) := aalloc_of ti87 s d
theorem bx87 (s : ASt) (d : Nat) (x : AVal) : abox Try.prog s d 87 x = (match cellsOf x with | some vs => s.new d 7 vs (.ptr (s.gh.nm d) s.gen 0) | none => none) := abox_of ti87 s d x
theorem ti97 : ti Try.prog 97 = some ⟨1, false, 24, [.nl], .slice 3⟩ := (ti_eq _ _).trans (by kernel_rfl)
theorem al97 (s : ASt) (d : Nat) : aalloc Try.prog s d 97 = s.new d 1 [.nl] (.ptr (s.gh.nm d) s.gen 0) := aalloc_of ti97 s d
theorem bx97 (s : ASt) (d : Nat) (x : AVal) : abox Try.prog s d 97 x = (match cellsOf x with | some vs => s.new d 1 vs (.ptr (s.gh.nm d) s.gen 0) | none => none) := abox_of ti97 s d x
theorem ti98 : ti Try.prog 98 = some ⟨1, false, 8, [.flat .nilFunc], .none⟩ := (ti_eq _ _).trans (by kernel_rfl)
theorem al98 (s : ASt) (d : Nat) : aalloc Try.prog s d 98 = s.new d 1 [.flat .nilFunc] (.ptr (s.gh.nm d) s.gen 0) := aalloc_of ti98 s d
theorem bx98 (s : ASt) (d : Nat) (x : AVal) : abox Try.prog s d 98 x = (match cellsOf x with | some vs => s.new d 1 vs (.ptr (s.gh.nm d) s.gen 0) | none => none) := abox_of ti98 s d x
theorem ti105 : ti Try.prog 105 = some ⟨1, false, 8, [.flat (.int .u64 0)], .none⟩ := (ti_eq _ _).trans (by kernel_rfl)
theorem al105 (s : ASt) (d : Nat) : aalloc Try.prog s d 105 = s.new d 1 [.flat (.int .u64 0)] (.ptr (s.gh.nm d) s.gen 0) := aalloc_of ti105 s d
theorem bx105 (s : ASt) (d : Nat) (x : AVal) : abox Try.prog s d 105 x = (match cellsOf x with | some vs => s.new d 1 vs (.ptr (s.gh.nm d) s.gen 0) | none => none) := abox_of ti105 s d x
theorem ti122 : ti Try.prog 122 = some ⟨1, false, 4, [.flat (.int .u32 0)], .none⟩ := (ti_eq _ _).trans (by kernel_rfl)
theorem al122 (s : ASt) (d : Nat) : aalloc Try.prog s d 122 = s.new d 1 [.flat (.int .u32 0)] (.ptr (s.gh.nm d) s.gen 0) := aalloc_of ti122 s d
theorem bx122 (s : ASt) (d : Nat) (x : AVal) : abox Try.prog s d 122 x = (match cellsOf x with | some vs => s.new d 1 vs (.ptr (s.gh.nm d) s.gen 0) | none => none) := abox_of ti122 s d x
theorem ti133 : ti Try.prog 133 = some ⟨1, false, 8, [.flat (.pointer none)], .none⟩ := (ti_eq _ _).trans (by kernel_rfl)
theorem al133 (s : ASt) (d : Nat) : aalloc Try.prog s d 133 = s.new d 1 [.flat (.pointer none)] (.ptr (s.gh.nm d) s.gen 0) := aalloc_of ti133 s d
theorem bx133 (s : ASt) (d : Nat) (x : AVal) : abox Try.prog s d 133 x = (match cellsOf x with | some vs => s.new d 1 vs (.ptr (s.gh.nm d) s.gen 0) | none => none) := abox_of ti133 s d x
theorem ti141 : ti Try.prog 141 = some ⟨0, true, 0, [], .array 0 16⟩ := (ti_eq _ _).trans (by kernel_rfl)
theorem al141 (s : ASt) (d : Nat) : aalloc Try.prog s d 141 = s.new d 0 [] (.ptr (s.gh.nm d) s.gen 0) := aalloc_of ti141 s d
theorem bx141 (s : ASt) (d : Nat) (x : AVal) : abox Try.prog s d 141 x = (match cellsOf x with | some vs => s.new d 0 vs (.ptr (s.gh.nm d) s.gen 0) | none => none) := abox_of ti141 s d x
theorem ti148 : ti Try.prog 148 = some ⟨1, false, 8, [.flat (.pointer none)], .none⟩ := (ti_eq _ _).trans (by kernel_rfl)
theorem al148 (s : ASt) (d : Nat) : aalloc Try.prog s d 148 = s.new d 1 [.flat (.pointer none)] (.ptr (s.gh.nm d) s.gen 0) := aalloc_of ti148 s d
theorem bx148 (s : ASt) (d : Nat) (x : AVal) : abox Try.prog s d 148 x = (match cellsOf x with | some vs => s.new d 1 vs (.ptr (s.gh.nm d) s.gen 0) | none => none) := abox_of ti148 s d x
theorem ti151 : ti Try.prog 151 = some ⟨11, true, 48, [.flat (.int .u64 0), .flat (.int .u64 0), .flat (.int .u32 0), .flat (.int .u8 0), .flat (.int .u8 0), .flat (.int .u8 0), .flat (.int .u8 0), .flat .nilFunc, .flat (.pointer none), .flat (.int .i32 0), .flat (.int .i32 0)], .struct [(0, 12), (1, 12), (2, 122), (3, 145), (4, 5), (5, 5), (6, 146), (7, 147), (8, 148), (9, 149), (10, 150)]⟩ := (ti_eq _ _).trans (by kernel_rfl)
theorem al151 (s : ASt) (d : Nat) : aalloc Try.prog s d 151 = s.new d 11 [.flat (.int .u64 0), .flat (.int .u64 0), .flat (.int .u32 0), .flat (.int .u8 0), .flat (.int .u8 0), .flat (.int .u8 0), .flat (.int .u8 0), .flat .nilFunc, .flat (.pointer none), .flat (.int .i32 0), .flat (.int .i32 0)] (.ptr (s.gh.nm d) s.gen 0) := aalloc_of ti151 s d
theorem bx151 (s : ASt) (d : Nat) (x : AVal) : abox Try.prog s d 151 x = (match cellsOf x with | some vs => s.new d 11 vs (.ptr (s.gh.nm d) s.gen 0) | none => none) := abox_of ti151 s d x
theorem sem_neB (x y : Operand) (p q : Bool) : semS Try.prog (do eqGuard .neq 4 x y (.bool p) (.bool q); binOp .neq 4 (.bool p) (.bool q)) = some (.flat (.bool (!(p == q)))) := sem_neb Try.prog x y p q (by kernel_rfl)
theorem sem_eqB (x y : Operand) (p q : Bool) : semS Try.prog (do eqGuard .eql 4 x y (.bool p) (.bool q); binOp .eql 4 (.bool p) (.bool q)) = some (.flat (.bool (p == q))) := sem_eqb Try.prog x y p q (by kernel_rfl)
theorem tabS : type_of% (And.intro (And.intro (And.intro (And.intro (And.intro (And.intro @ti1 (And.intro @al1 @bx1)) (And.intro @ti2 (And.intro @al2 @bx2))) (And.intro (And.intro @ti3 (And.intro @al3 @bx3)) (And.intro @ti4 (And.intro @al4 @bx4)))) (And.intro (And.intro (And.intro @ti5 (And.intro @al5 @bx5)) (And.intro @ti9 (And.intro @al9 @bx9))) (And.intro (And.intro @ti12 (And.intro @al12 @bx12)) (And.intro (And.intro @ti21 @al21) (And.intro @bx21 @ti22))))) (And.intro (And.intro (And.intro (And.intro @al22 (And.intro @bx22 @ti24)) (And.intro @al24 (And.intro @bx24 @ti25))) (And.intro (And.intro @al25 (And.intro @bx25 @ti26)) (And.intro @al26 (And.intro @bx26 @ti27)))) (And.intro (And.intro (And.intro @al27 (And.intro @bx27 @ti47)) (And.intro @al47 (And.intro @bx47 @ti54))) (And.intro (And.intro @al54 (And.intro @bx54 @ti63)) (And.intro (And.intro @al63 @bx63) (And.intro @ti67 @al67)))))) (And.intro (And.intro (And.intro (And.intro (And.intro @bx67 (And.intro @ti69 @al69)) (And.intro @bx69 (And.intro @ti79 @al79))) (And.intro (And.intro @bx79 (And.intro @ti80 @al80)) (And.intro @bx80 (And.intro @ti81 @al81)))) (And.intro (And.intro (And.intro @bx81 (And.intro @ti82 @al82)) (And.intro @bx82 (And.intro @ti85 @al85))) (And.intro (And.intro @bx85 (And.intro @ti86 @al86)) (And.intro (And.intro @bx86 @ti87) (And.intro @al87 @bx87))))) (And.intro (And.intro (And.intro (And.intro @ti97 (And.intro @al97 @bx97)) (And.intro @ti98 (And.intro @al98 @bx98))) (And.intro (And.intro @ti105 (And.intro @al105 @bx105)) (And.intro (And.intro @ti122 @al122) (And.intro @bx122 @ti133)))) (And.intro (And.intro (And.intro @al133 (And.intro @bx133 @ti141)) (And.intro @al141 (And.intro @bx141 @ti148))) (And.intro (And.intro @al148 (And.intro @bx148 @ti151)) (And.intro (And.intro @al151 @bx151) (And.intro @sem_neB @sem_eqB))))))) := (And.intro (And.intro (And.intro (And.intro (And.intro (And.intro @ti1 (And.intro @al1 @bx1)) (And.intro @ti2 (And.intro @al2 @bx2))) (And.intro (And.intro @ti3 (And.intro @al3 @bx3)) (And.intro @ti4 (And.intro @al4 @bx4)))) (And.intro (And.intro (And.intro @ti5 (And.intro @al5 @bx5)) (And.intro @ti9 (And.intro @al9 @bx9))) (And.intro (And.intro @ti12 (And.intro @al12 @bx12)) (And.intro (And.intro @ti21 @al21) (And.intro @bx21 @ti22))))) (And.intro (And.intro (And.intro (And.intro @al22 (And.intro @bx22 @ti24)) (And.intro @al24 (And.intro @bx24 @ti25))) (And.intro (And.intro @al25 (And.intro @bx25 @ti26)) (And.intro @al26 (And.intro @bx26 @ti27)))) (And.intro (And.intro (And.intro @al27 (And.intro @bx27 @ti47)) (And.intro @al47 (And.intro @bx47 @ti54))) (And.intro (And.intro @al54 (And.intro @bx54 @ti63)) (And.intro (And.intro @al63 @bx63) (And.intro @ti67 @al67)))))) (And.intro (And.intro (And.intro (And.intro (And.intro @bx67 (And.intro @ti69 @al69)) (And.intro @bx69 (And.intro @ti79 @al79))) (And.intro (And.intro @bx79 (And.intro @ti80 @al80)) (And.intro @bx80 (And.intro @ti81 @al81)))) (And.intro (And.intro (And.intro @bx81 (And.intro @ti82 @al82)) (And.intro @bx82 (And.intro @ti85 @al85))) (And.intro (And.intro @bx85 (And.intro @ti86 @al86)) (And.intro (And.intro @bx86 @ti87) (And.intro @al87 @bx87))))) (And.intro (And.intro (And.intro (And.intro @ti97 (And.intro @al97 @bx97)) (And.intro @ti98 (And.intro @al98 @bx98))) (And.intro (And.intro @ti105 (And.intro @al105 @bx105)) (And.intro (And.intro @ti122 @al122) (And.intro @bx122 @ti133)))) (And.intro (And.intro (And.intro @al133 (And.intro @bx133 @ti141)) (And.intro @al141 (And.intro @bx141 @ti148))) (And.intro (And.intro @al148 (And.intro @bx148 @ti151)) (And.intro (And.intro @al151 @bx151) (And.intro @sem_neB @sem_eqB)))))))
theorem mixed : Try.prog.follows .mixedOrders = true := by kernel_rfl
theorem laidOut : laidOutB Try.prog = true := by kernel_rfl
theorem ownK : ownKnob Try.prog.godebug = none := by kernel_rfl
end Go.Proofs.Ytkmhoebopfgpdaa
