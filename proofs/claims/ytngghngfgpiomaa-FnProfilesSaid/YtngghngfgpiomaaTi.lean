/-
  OWN WORK, printed by program: the types of this seat, as the walk over abstract states asks for them.
-/
import Derived.Test.YtngghngfgpiomaaChecked
import Derived.Test.YtngghngfgpiomaaOwnM
namespace Go.Proofs.Ytngghngfgpiomaa
open Go Go.Own Go.Proofs
instance : GL := ⟨[], by simp⟩
theorem noGlobs (E : Env) : Globs E := fun p hp => by cases hp
theorem aalloc_of {P : Program} {t : TypeId} {i : TI} (h : ti P t = some i) (s : ASt) (d : Nat) : aalloc P s d t = s.new d i.size i.zero (.ptr (s.gh.nm d) s.gen 0) := by unfold aalloc; rw [h]
theorem abox_of {P : Program} {t : TypeId} {i : TI} (h : ti P t = some i) (s : ASt) (d : Nat) (x : AVal) : abox P s d t x = (match cellsOf x with | some vs => s.new d i.size vs (.ptr (s.gh.nm d) s.gen 0) | none => none) := by unfold abox; rw [h]; cases cellsOf x <;> rfl
theorem ti1 : ti Try.prog 1 = some ⟨1, false, 8, [.flat .nilFunc], .none⟩ := (ti_eq _ _).trans (by kernel_rfl)
theorem al1 (s : ASt) (d : Nat) : aalloc Try.prog s d 1 = s.new d 1 [.flat .nilFunc] (.ptr (s.gh.nm d) s.gen 0) := aalloc_of ti1 s d
theorem bx1 (s : ASt) (d : Nat) (x : AVal) : abox Try.prog s d 1 x = (match cellsOf x with | some vs => s.new d 1 vs (.ptr (s.gh.nm d) s.gen 0) | none => none) := abox_of ti1 s d x
theorem ti2 : ti Try.prog 2 = some ⟨1, false, 8, [.flat (.int .i64 0)], .none⟩ := (ti_eq _ _).trans (by kernel_rfl)
theorem al2 (s : ASt) (d : Nat) : aalloc Try.prog s d 2 = s.new d 1 [.flat (.int .i64 0)] (.ptr (s.gh.nm d) s.gen 0) := aalloc_of ti2 s d
theorem bx2 (s : ASt) (d : Nat) (x : AVal) : abox Try.prog s d 2 x = (match cellsOf x with | some vs => s.new d 1 vs (.ptr (s.gh.nm d) s.gen 0) | none => none) := abox_of ti2 s d x
theorem ti3 : ti Try.prog 3 = some ⟨1, false, 8, [.flat (.int .i64 0)], .none⟩ := (ti_eq _ _).trans (by kernel_rfl)
theorem al3 (s : ASt) (d : Nat) : aalloc Try.prog s d 3 = s.new d 1 [.flat (.int .i64 0)] (.ptr (s.gh.nm d) s.gen 0) := aalloc_of ti3 s d
theorem bx3 (s : ASt) (d : Nat) (x : AVal) : abox Try.prog s d 3 x = (match cellsOf x with | some vs => s.new d 1 vs (.ptr (s.gh.nm d) s.gen 0) | none => none) := abox_of ti3 s d x
theorem ti4 : ti Try.prog 4 = some ⟨1, false, 1, [.flat (.bool false)], .none⟩ := (ti_eq _ _).trans (by kernel_rfl)
theorem al4 (s : ASt) (d : Nat) : aalloc Try.prog s d 4 = s.new d 1 [.flat (.bool false)] (.ptr (s.gh.nm d) s.gen 0) := aalloc_of ti4 s d
theorem bx4 (s : ASt) (d : Nat) (x : AVal) : abox Try.prog s d 4 x = (match cellsOf x with | some vs => s.new d 1 vs (.ptr (s.gh.nm d) s.gen 0) | none => none) := abox_of ti4 s d x
theorem ti5 : ti Try.prog 5 = some ⟨1, false, 1, [.flat (.int .u8 0)], .none⟩ := (ti_eq _ _).trans (by kernel_rfl)
theorem al5 (s : ASt) (d : Nat) : aalloc Try.prog s d 5 = s.new d 1 [.flat (.int .u8 0)] (.ptr (s.gh.nm d) s.gen 0) := aalloc_of ti5 s d
theorem bx5 (s : ASt) (d : Nat) (x : AVal) : abox Try.prog s d 5 x = (match cellsOf x with | some vs => s.new d 1 vs (.ptr (s.gh.nm d) s.gen 0) | none => none) := abox_of ti5 s d x
theorem ti9 : ti Try.prog 9 = some ⟨1, false, 16, [.flat (.string ByteArray.empty)], .str⟩ := (ti_eq _ _).trans (by kernel_rfl)
theorem al9 (s : ASt) (d : Nat) : aalloc Try.prog s d 9 = s.new d 1 [.flat (.string ByteArray.empty)] (.ptr (s.gh.nm d) s.gen 0) := aalloc_of ti9 s d
theorem bx9 (s : ASt) (d : Nat) (x : AVal) : abox Try.prog s d 9 x = (match cellsOf x with | some vs => s.new d 1 vs (.ptr (s.gh.nm d) s.gen 0) | none => none) := abox_of ti9 s d x
theorem ti12 : ti Try.prog 12 = some ⟨1, false, 8, [.flat (.int .u64 0)], .none⟩ := (ti_eq _ _).trans (by kernel_rfl)
theorem al12 (s : ASt) (d : Nat) : aalloc Try.prog s d 12 = s.new d 1 [.flat (.int .u64 0)] (.ptr (s.gh.nm d) s.gen 0) := aalloc_of ti12 s d
theorem bx12 (s : ASt) (d : Nat) (x : AVal) : abox Try.prog s d 12 x = (match cellsOf x with | some vs => s.new d 1 vs (.ptr (s.gh.nm d) s.gen 0) | none => none) := abox_of ti12 s d x
theorem ti21 : ti Try.prog 21 = some ⟨1, false, 4, [.flat (.int .i32 0)], .none⟩ := (ti_eq _ _).trans (by kernel_rfl)
theorem al21 (s : ASt) (d : Nat) : aalloc Try.prog s d 21 = s.new d 1 [.flat (.int .i32 0)] (.ptr (s.gh.nm d) s.gen 0) := aalloc_of ti21 s d
theorem bx21 (s : ASt) (d : Nat) (x : AVal) : abox Try.prog s d 21 x = (match cellsOf x with | some vs => s.new d 1 vs (.ptr (s.gh.nm d) s.gen 0) | none => none) := abox_of ti21 s d x
theorem ti22 : ti Try.prog 22 = some ⟨1, false, 24, [.nl], .slice 5⟩ := (ti_eq _ _).trans (by kernel_rfl)
theorem al22 (s : ASt) (d : Nat) : aalloc Try.prog s d 22 = s.new d 1 [.nl] (.ptr (s.gh.nm d) s.gen 0) := aalloc_of ti22 s d
theorem bx22 (s : ASt) (d : Nat) (x : AVal) : abox Try.prog s d 22 x = (match cellsOf x with | some vs => s.new d 1 vs (.ptr (s.gh.nm d) s.gen 0) | none => none) := abox_of ti22 s d x
theorem ti23 : ti Try.prog 23 = some ⟨1, false, 8, [.flat .nilFunc], .none⟩ := (ti_eq _ _).trans (by kernel_rfl)
theorem al23 (s : ASt) (d : Nat) : aalloc Try.prog s d 23 = s.new d 1 [.flat .nilFunc] (.ptr (s.gh.nm d) s.gen 0) := aalloc_of ti23 s d
theorem bx23 (s : ASt) (d : Nat) (x : AVal) : abox Try.prog s d 23 x = (match cellsOf x with | some vs => s.new d 1 vs (.ptr (s.gh.nm d) s.gen 0) | none => none) := abox_of ti23 s d x
theorem ti24 : ti Try.prog 24 = some ⟨1, false, 24, [.nl], .slice 2⟩ := (ti_eq _ _).trans (by kernel_rfl)
theorem al24 (s : ASt) (d : Nat) : aalloc Try.prog s d 24 = s.new d 1 [.nl] (.ptr (s.gh.nm d) s.gen 0) := aalloc_of ti24 s d
theorem bx24 (s : ASt) (d : Nat) (x : AVal) : abox Try.prog s d 24 x = (match cellsOf x with | some vs => s.new d 1 vs (.ptr (s.gh.nm d) s.gen 0) | none => none) := abox_of ti24 s d x
theorem ti25 : ti Try.prog 25 = some ⟨5, true, 72, [.flat (.int .i64 0), .flat (.int .i64 0), .flat (.int .i64 0), .nl, .nl], .struct [(0, 2), (1, 2), (2, 2), (3, 24), (4, 24)]⟩ := (ti_eq _ _).trans (by kernel_rfl)
theorem al25 (s : ASt) (d : Nat) : aalloc Try.prog s d 25 = s.new d 5 [.flat (.int .i64 0), .flat (.int .i64 0), .flat (.int .i64 0), .nl, .nl] (.ptr (s.gh.nm d) s.gen 0) := aalloc_of ti25 s d
theorem bx25 (s : ASt) (d : Nat) (x : AVal) : abox Try.prog s d 25 x = (match cellsOf x with | some vs => s.new d 5 vs (.ptr (s.gh.nm d) s.gen 0) | none => none) := abox_of ti25 s d x
theorem ti26 : ti Try.prog 26 = some ⟨5, true, 72, [.flat (.int .i64 0), .flat (.int .i64 0), .flat (.int .i64 0), .nl, .nl], .struct [(0, 2), (1, 2), (2, 2), (3, 24), (4, 24)]⟩ := (ti_eq _ _).trans (by kernel_rfl)
theorem al26 (s : ASt) (d : Nat) : aalloc Try.prog s d 26 = s.new d 5 [.flat (.int .i64 0), .flat (.int .i64 0), .flat (.int .i64 0), .nl, .nl] (.ptr (s.gh.nm d) s.gen 0) := aalloc_of ti26 s d
theorem bx26 (s : ASt) (d : Nat) (x : AVal) : abox Try.prog s d 26 x = (match cellsOf x with | some vs => s.new d 5 vs (.ptr (s.gh.nm d) s.gen 0) | none => none) := abox_of ti26 s d x
theorem ti27 : ti Try.prog 27 = some ⟨2, true, 16, [.flat (.int .i64 0), .flat (.int .i64 0)], .struct [(0, 2), (1, 2)]⟩ := (ti_eq _ _).trans (by kernel_rfl)
theorem al27 (s : ASt) (d : Nat) : aalloc Try.prog s d 27 = s.new d 2 [.flat (.int .i64 0), .flat (.int .i64 0)] (.ptr (s.gh.nm d) s.gen 0) := aalloc_of ti27 s d
theorem bx27 (s : ASt) (d : Nat) (x : AVal) : abox Try.prog s d 27 x = (match cellsOf x with | some vs => s.new d 2 vs (.ptr (s.gh.nm d) s.gen 0) | none => none) := abox_of ti27 s d x
theorem ti28 : ti Try.prog 28 = some ⟨2, true, 16, [.flat (.int .i64 0), .flat (.int .i64 0)], .struct [(0, 2), (1, 2)]⟩ := (ti_eq _ _).trans (by kernel_rfl)
theorem al28 (s : ASt) (d : Nat) : aalloc Try.prog s d 28 = s.new d 2 [.flat (.int .i64 0), .flat (.int .i64 0)] (.ptr (s.gh.nm d) s.gen 0) := aalloc_of ti28 s d
theorem bx28 (s : ASt) (d : Nat) (x : AVal) : abox Try.prog s d 28 x = (match cellsOf x with | some vs => s.new d 2 vs (.ptr (s.gh.nm d) s.gen 0) | none => none) := abox_of ti28 s d x
theorem ti30 : ti Try.prog 30 = some ⟨1, false, 8, [.flat .nilFunc], .none⟩ := (ti_eq _ _).trans (by kernel_rfl)
theorem al30 (s : ASt) (d : Nat) : aalloc Try.prog s d 30 = s.new d 1 [.flat .nilFunc] (.ptr (s.gh.nm d) s.gen 0) := aalloc_of ti30 s d
theorem bx30 (s : ASt) (d : Nat) (x : AVal) : abox Try.prog s d 30 x = (match cellsOf x with | some vs => s.new d 1 vs (.ptr (s.gh.nm d) s.gen 0) | none => none) := abox_of ti30 s d x
theorem ti32 : ti Try.prog 32 = some ⟨1, false, 8, [.flat .nilFunc], .none⟩ := (ti_eq _ _).trans (by kernel_rfl)
theorem al32 (s : ASt) (d : Nat) : aalloc Try.prog s d 32 = s.new d 1 [.flat .nilFunc] (.ptr (s.gh.nm d) s.gen 0) := aalloc_of ti32 s d
theorem bx32 (s : ASt) (d : Nat) (x : AVal) : abox Try.prog s d 32 x = (match cellsOf x with | some vs => s.new d 1 vs (.ptr (s.gh.nm d) s.gen 0) | none => none) := abox_of ti32 s d x
theorem ti33 : ti Try.prog 33 = some ⟨1, false, 24, [.nl], .slice 28⟩ := (ti_eq _ _).trans (by kernel_rfl)
theorem al33 (s : ASt) (d : Nat) : aalloc Try.prog s d 33 = s.new d 1 [.nl] (.ptr (s.gh.nm d) s.gen 0) := aalloc_of ti33 s d
theorem bx33 (s : ASt) (d : Nat) (x : AVal) : abox Try.prog s d 33 x = (match cellsOf x with | some vs => s.new d 1 vs (.ptr (s.gh.nm d) s.gen 0) | none => none) := abox_of ti33 s d x
theorem ti35 : ti Try.prog 35 = some ⟨1, false, 8, [.flat .nilFunc], .none⟩ := (ti_eq _ _).trans (by kernel_rfl)
theorem al35 (s : ASt) (d : Nat) : aalloc Try.prog s d 35 = s.new d 1 [.flat .nilFunc] (.ptr (s.gh.nm d) s.gen 0) := aalloc_of ti35 s d
theorem bx35 (s : ASt) (d : Nat) (x : AVal) : abox Try.prog s d 35 x = (match cellsOf x with | some vs => s.new d 1 vs (.ptr (s.gh.nm d) s.gen 0) | none => none) := abox_of ti35 s d x
theorem ti37 : ti Try.prog 37 = some ⟨1, false, 8, [.flat .nilFunc], .none⟩ := (ti_eq _ _).trans (by kernel_rfl)
theorem al37 (s : ASt) (d : Nat) : aalloc Try.prog s d 37 = s.new d 1 [.flat .nilFunc] (.ptr (s.gh.nm d) s.gen 0) := aalloc_of ti37 s d
theorem bx37 (s : ASt) (d : Nat) (x : AVal) : abox Try.prog s d 37 x = (match cellsOf x with | some vs => s.new d 1 vs (.ptr (s.gh.nm d) s.gen 0) | none => none) := abox_of ti37 s d x
theorem ti38 : ti Try.prog 38 = some ⟨1, false, 8, [.flat (.pointer none)], .none⟩ := (ti_eq _ _).trans (by kernel_rfl)
theorem al38 (s : ASt) (d : Nat) : aalloc Try.prog s d 38 = s.new d 1 [.flat (.pointer none)] (.ptr (s.gh.nm d) s.gen 0) := aalloc_of ti38 s d
theorem bx38 (s : ASt) (d : Nat) (x : AVal) : abox Try.prog s d 38 x = (match cellsOf x with | some vs => s.new d 1 vs (.ptr (s.gh.nm d) s.gen 0) | none => none) := abox_of ti38 s d x
theorem ti39 : ti Try.prog 39 = some ⟨1, false, 8, [.flat .nilFunc], .none⟩ := (ti_eq _ _).trans (by kernel_rfl)
theorem al39 (s : ASt) (d : Nat) : aalloc Try.prog s d 39 = s.new d 1 [.flat .nilFunc] (.ptr (s.gh.nm d) s.gen 0) := aalloc_of ti39 s d
theorem bx39 (s : ASt) (d : Nat) (x : AVal) : abox Try.prog s d 39 x = (match cellsOf x with | some vs => s.new d 1 vs (.ptr (s.gh.nm d) s.gen 0) | none => none) := abox_of ti39 s d x
theorem ti40 : ti Try.prog 40 = some ⟨1, false, 8, [.flat .nilFunc], .none⟩ := (ti_eq _ _).trans (by kernel_rfl)
theorem al40 (s : ASt) (d : Nat) : aalloc Try.prog s d 40 = s.new d 1 [.flat .nilFunc] (.ptr (s.gh.nm d) s.gen 0) := aalloc_of ti40 s d
theorem bx40 (s : ASt) (d : Nat) (x : AVal) : abox Try.prog s d 40 x = (match cellsOf x with | some vs => s.new d 1 vs (.ptr (s.gh.nm d) s.gen 0) | none => none) := abox_of ti40 s d x
theorem ti42 : ti Try.prog 42 = some ⟨1, false, 8, [.flat .nilFunc], .none⟩ := (ti_eq _ _).trans (by kernel_rfl)
theorem al42 (s : ASt) (d : Nat) : aalloc Try.prog s d 42 = s.new d 1 [.flat .nilFunc] (.ptr (s.gh.nm d) s.gen 0) := aalloc_of ti42 s d
theorem bx42 (s : ASt) (d : Nat) (x : AVal) : abox Try.prog s d 42 x = (match cellsOf x with | some vs => s.new d 1 vs (.ptr (s.gh.nm d) s.gen 0) | none => none) := abox_of ti42 s d x
theorem ti43 : ti Try.prog 43 = some ⟨1, false, 8, [.flat (.pointer none)], .none⟩ := (ti_eq _ _).trans (by kernel_rfl)
theorem al43 (s : ASt) (d : Nat) : aalloc Try.prog s d 43 = s.new d 1 [.flat (.pointer none)] (.ptr (s.gh.nm d) s.gen 0) := aalloc_of ti43 s d
theorem bx43 (s : ASt) (d : Nat) (x : AVal) : abox Try.prog s d 43 x = (match cellsOf x with | some vs => s.new d 1 vs (.ptr (s.gh.nm d) s.gen 0) | none => none) := abox_of ti43 s d x
theorem ti44 : ti Try.prog 44 = some ⟨1, false, 8, [.flat .nilFunc], .none⟩ := (ti_eq _ _).trans (by kernel_rfl)
theorem al44 (s : ASt) (d : Nat) : aalloc Try.prog s d 44 = s.new d 1 [.flat .nilFunc] (.ptr (s.gh.nm d) s.gen 0) := aalloc_of ti44 s d
theorem bx44 (s : ASt) (d : Nat) (x : AVal) : abox Try.prog s d 44 x = (match cellsOf x with | some vs => s.new d 1 vs (.ptr (s.gh.nm d) s.gen 0) | none => none) := abox_of ti44 s d x
theorem ti45 : ti Try.prog 45 = some ⟨1, false, 8, [.flat .nilFunc], .none⟩ := (ti_eq _ _).trans (by kernel_rfl)
theorem al45 (s : ASt) (d : Nat) : aalloc Try.prog s d 45 = s.new d 1 [.flat .nilFunc] (.ptr (s.gh.nm d) s.gen 0) := aalloc_of ti45 s d
theorem bx45 (s : ASt) (d : Nat) (x : AVal) : abox Try.prog s d 45 x = (match cellsOf x with | some vs => s.new d 1 vs (.ptr (s.gh.nm d) s.gen 0) | none => none) := abox_of ti45 s d x
theorem ti46 : ti Try.prog 46 = some ⟨1, false, 8, [.flat .nilFunc], .none⟩ := (ti_eq _ _).trans (by kernel_rfl)
theorem al46 (s : ASt) (d : Nat) : aalloc Try.prog s d 46 = s.new d 1 [.flat .nilFunc] (.ptr (s.gh.nm d) s.gen 0) := aalloc_of ti46 s d
theorem bx46 (s : ASt) (d : Nat) (x : AVal) : abox Try.prog s d 46 x = (match cellsOf x with | some vs => s.new d 1 vs (.ptr (s.gh.nm d) s.gen 0) | none => none) := abox_of ti46 s d x
theorem ti47 : ti Try.prog 47 = some ⟨1, false, 8, [.flat .nilFunc], .none⟩ := (ti_eq _ _).trans (by kernel_rfl)
theorem al47 (s : ASt) (d : Nat) : aalloc Try.prog s d 47 = s.new d 1 [.flat .nilFunc] (.ptr (s.gh.nm d) s.gen 0) := aalloc_of ti47 s d
theorem bx47 (s : ASt) (d : Nat) (x : AVal) : abox Try.prog s d 47 x = (match cellsOf x with | some vs => s.new d 1 vs (.ptr (s.gh.nm d) s.gen 0) | none => none) := abox_of ti47 s d x
theorem ti48 : ti Try.prog 48 = some ⟨1, false, 8, [.flat .nilFunc], .none⟩ := (ti_eq _ _).trans (by kernel_rfl)
theorem al48 (s : ASt) (d : Nat) : aalloc Try.prog s d 48 = s.new d 1 [.flat .nilFunc] (.ptr (s.gh.nm d) s.gen 0) := aalloc_of ti48 s d
theorem bx48 (s : ASt) (d : Nat) (x : AVal) : abox Try.prog s d 48 x = (match cellsOf x with | some vs => s.new d 1 vs (.ptr (s.gh.nm d) s.gen 0) | none => none) := abox_of ti48 s d x
theorem ti49 : ti Try.prog 49 = some ⟨1, false, 8, [.flat .nilFunc], .none⟩ := (ti_eq _ _).trans (by kernel_rfl)
theorem al49 (s : ASt) (d : Nat) : aalloc Try.prog s d 49 = s.new d 1 [.flat .nilFunc] (.ptr (s.gh.nm d) s.gen 0) := aalloc_of ti49 s d
theorem bx49 (s : ASt) (d : Nat) (x : AVal) : abox Try.prog s d 49 x = (match cellsOf x with | some vs => s.new d 1 vs (.ptr (s.gh.nm d) s.gen 0) | none => none) := abox_of ti49 s d x
theorem ti50 : ti Try.prog 50 = some ⟨1, false, 8, [.flat .nilFunc], .none⟩ := (ti_eq _ _).trans (by kernel_rfl)
theorem al50 (s : ASt) (d : Nat) : aalloc Try.prog s d 50 = s.new d 1 [.flat .nilFunc] (.ptr (s.gh.nm d) s.gen 0) := aalloc_of ti50 s d
theorem bx50 (s : ASt) (d : Nat) (x : AVal) : abox Try.prog s d 50 x = (match cellsOf x with | some vs => s.new d 1 vs (.ptr (s.gh.nm d) s.gen 0) | none => none) := abox_of ti50 s d x
theorem ti51 : ti Try.prog 51 = some ⟨1, false, 8, [.flat (.int .u64 0)], .none⟩ := (ti_eq _ _).trans (by kernel_rfl)
theorem al51 (s : ASt) (d : Nat) : aalloc Try.prog s d 51 = s.new d 1 [.flat (.int .u64 0)] (.ptr (s.gh.nm d) s.gen 0) := aalloc_of ti51 s d
theorem bx51 (s : ASt) (d : Nat) (x : AVal) : abox Try.prog s d 51 x = (match cellsOf x with | some vs => s.new d 1 vs (.ptr (s.gh.nm d) s.gen 0) | none => none) := abox_of ti51 s d x
theorem ti52 : ti Try.prog 52 = some ⟨3, true, 40, [.nl, .flat (.int .i64 0), .flat (.int .u64 0)], .struct [(0, 22), (1, 3), (2, 51)]⟩ := (ti_eq _ _).trans (by kernel_rfl)
theorem al52 (s : ASt) (d : Nat) : aalloc Try.prog s d 52 = s.new d 3 [.nl, .flat (.int .i64 0), .flat (.int .u64 0)] (.ptr (s.gh.nm d) s.gen 0) := aalloc_of ti52 s d
theorem bx52 (s : ASt) (d : Nat) (x : AVal) : abox Try.prog s d 52 x = (match cellsOf x with | some vs => s.new d 3 vs (.ptr (s.gh.nm d) s.gen 0) | none => none) := abox_of ti52 s d x
theorem ti53 : ti Try.prog 53 = some ⟨3, true, 40, [.nl, .flat (.int .i64 0), .flat (.int .u64 0)], .struct [(0, 22), (1, 3), (2, 51)]⟩ := (ti_eq _ _).trans (by kernel_rfl)
theorem al53 (s : ASt) (d : Nat) : aalloc Try.prog s d 53 = s.new d 3 [.nl, .flat (.int .i64 0), .flat (.int .u64 0)] (.ptr (s.gh.nm d) s.gen 0) := aalloc_of ti53 s d
theorem bx53 (s : ASt) (d : Nat) (x : AVal) : abox Try.prog s d 53 x = (match cellsOf x with | some vs => s.new d 3 vs (.ptr (s.gh.nm d) s.gen 0) | none => none) := abox_of ti53 s d x
theorem ti54 : ti Try.prog 54 = some ⟨1, false, 8, [.flat .nilFunc], .none⟩ := (ti_eq _ _).trans (by kernel_rfl)
theorem al54 (s : ASt) (d : Nat) : aalloc Try.prog s d 54 = s.new d 1 [.flat .nilFunc] (.ptr (s.gh.nm d) s.gen 0) := aalloc_of ti54 s d
theorem bx54 (s : ASt) (d : Nat) (x : AVal) : abox Try.prog s d 54 x = (match cellsOf x with | some vs => s.new d 1 vs (.ptr (s.gh.nm d) s.gen 0) | none => none) := abox_of ti54 s d x
theorem ti55 : ti Try.prog 55 = some ⟨1, false, 8, [.flat .nilFunc], .none⟩ := (ti_eq _ _).trans (by kernel_rfl)
theorem al55 (s : ASt) (d : Nat) : aalloc Try.prog s d 55 = s.new d 1 [.flat .nilFunc] (.ptr (s.gh.nm d) s.gen 0) := aalloc_of ti55 s d
theorem bx55 (s : ASt) (d : Nat) (x : AVal) : abox Try.prog s d 55 x = (match cellsOf x with | some vs => s.new d 1 vs (.ptr (s.gh.nm d) s.gen 0) | none => none) := abox_of ti55 s d x
theorem ti56 : ti Try.prog 56 = some ⟨1, false, 8, [.flat .nilFunc], .none⟩ := (ti_eq _ _).trans (by kernel_rfl)
theorem al56 (s : ASt) (d : Nat) : aalloc Try.prog s d 56 = s.new d 1 [.flat .nilFunc] (.ptr (s.gh.nm d) s.gen 0) := aalloc_of ti56 s d
theorem bx56 (s : ASt) (d : Nat) (x : AVal) : abox Try.prog s d 56 x = (match cellsOf x with | some vs => s.new d 1 vs (.ptr (s.gh.nm d) s.gen 0) | none => none) := abox_of ti56 s d x
theorem ti57 : ti Try.prog 57 = some ⟨1, false, 8, [.flat .nilFunc], .none⟩ := (ti_eq _ _).trans (by kernel_rfl)
theorem al57 (s : ASt) (d : Nat) : aalloc Try.prog s d 57 = s.new d 1 [.flat .nilFunc] (.ptr (s.gh.nm d) s.gen 0) := aalloc_of ti57 s d
theorem bx57 (s : ASt) (d : Nat) (x : AVal) : abox Try.prog s d 57 x = (match cellsOf x with | some vs => s.new d 1 vs (.ptr (s.gh.nm d) s.gen 0) | none => none) := abox_of ti57 s d x
theorem ti58 : ti Try.prog 58 = some ⟨1, false, 8, [.flat .nilFunc], .none⟩ := (ti_eq _ _).trans (by kernel_rfl)
theorem al58 (s : ASt) (d : Nat) : aalloc Try.prog s d 58 = s.new d 1 [.flat .nilFunc] (.ptr (s.gh.nm d) s.gen 0) := aalloc_of ti58 s d
theorem bx58 (s : ASt) (d : Nat) (x : AVal) : abox Try.prog s d 58 x = (match cellsOf x with | some vs => s.new d 1 vs (.ptr (s.gh.nm d) s.gen 0) | none => none) := abox_of ti58 s d x
theorem ti59 : ti Try.prog 59 = some ⟨1, false, 8, [.flat .nilFunc], .none⟩ := (ti_eq _ _).trans (by kernel_rfl)
theorem al59 (s : ASt) (d : Nat) : aalloc Try.prog s d 59 = s.new d 1 [.flat .nilFunc] (.ptr (s.gh.nm d) s.gen 0) := aalloc_of ti59 s d
theorem bx59 (s : ASt) (d : Nat) (x : AVal) : abox Try.prog s d 59 x = (match cellsOf x with | some vs => s.new d 1 vs (.ptr (s.gh.nm d) s.gen 0) | none => none) := abox_of ti59 s d x
theorem ti60 : ti Try.prog 60 = some ⟨1, false, 8, [.flat .nilFunc], .none⟩ := (ti_eq _ _).trans (by kernel_rfl)
theorem al60 (s : ASt) (d : Nat) : aalloc Try.prog s d 60 = s.new d 1 [.flat .nilFunc] (.ptr (s.gh.nm d) s.gen 0) := aalloc_of ti60 s d
theorem bx60 (s : ASt) (d : Nat) (x : AVal) : abox Try.prog s d 60 x = (match cellsOf x with | some vs => s.new d 1 vs (.ptr (s.gh.nm d) s.gen 0) | none => none) := abox_of ti60 s d x
theorem ti61 : ti Try.prog 61 = some ⟨1, false, 8, [.flat .nilFunc], .none⟩ := (ti_eq _ _).trans (by kernel_rfl)
theorem al61 (s : ASt) (d : Nat) : aalloc Try.prog s d 61 = s.new d 1 [.flat .nilFunc] (.ptr (s.gh.nm d) s.gen 0) := aalloc_of ti61 s d
theorem bx61 (s : ASt) (d : Nat) (x : AVal) : abox Try.prog s d 61 x = (match cellsOf x with | some vs => s.new d 1 vs (.ptr (s.gh.nm d) s.gen 0) | none => none) := abox_of ti61 s d x
theorem ti62 : ti Try.prog 62 = some ⟨1, false, 8, [.flat .nilFunc], .none⟩ := (ti_eq _ _).trans (by kernel_rfl)
theorem al62 (s : ASt) (d : Nat) : aalloc Try.prog s d 62 = s.new d 1 [.flat .nilFunc] (.ptr (s.gh.nm d) s.gen 0) := aalloc_of ti62 s d
theorem bx62 (s : ASt) (d : Nat) (x : AVal) : abox Try.prog s d 62 x = (match cellsOf x with | some vs => s.new d 1 vs (.ptr (s.gh.nm d) s.gen 0) | none => none) := abox_of ti62 s d x
theorem ti63 : ti Try.prog 63 = some ⟨1, false, 8, [.flat .nilFunc], .none⟩ := (ti_eq _ _).trans (by kernel_rfl)
theorem al63 (s : ASt) (d : Nat) : aalloc Try.prog s d 63 = s.new d 1 [.flat .nilFunc] (.ptr (s.gh.nm d) s.gen 0) := aalloc_of ti63 s d
theorem bx63 (s : ASt) (d : Nat) (x : AVal) : abox Try.prog s d 63 x = (match cellsOf x with | some vs => s.new d 1 vs (.ptr (s.gh.nm d) s.gen 0) | none => none) := abox_of ti63 s d x
theorem ti64 : ti Try.prog 64 = some ⟨1, false, 8, [.flat (.int .u64 0)], .none⟩ := (ti_eq _ _).trans (by kernel_rfl)
theorem al64 (s : ASt) (d : Nat) : aalloc Try.prog s d 64 = s.new d 1 [.flat (.int .u64 0)] (.ptr (s.gh.nm d) s.gen 0) := aalloc_of ti64 s d
theorem bx64 (s : ASt) (d : Nat) (x : AVal) : abox Try.prog s d 64 x = (match cellsOf x with | some vs => s.new d 1 vs (.ptr (s.gh.nm d) s.gen 0) | none => none) := abox_of ti64 s d x
theorem ti65 : ti Try.prog 65 = some ⟨1, false, 8, [.flat .nilFunc], .none⟩ := (ti_eq _ _).trans (by kernel_rfl)
theorem al65 (s : ASt) (d : Nat) : aalloc Try.prog s d 65 = s.new d 1 [.flat .nilFunc] (.ptr (s.gh.nm d) s.gen 0) := aalloc_of ti65 s d
theorem bx65 (s : ASt) (d : Nat) (x : AVal) : abox Try.prog s d 65 x = (match cellsOf x with | some vs => s.new d 1 vs (.ptr (s.gh.nm d) s.gen 0) | none => none) := abox_of ti65 s d x
theorem ti66 : ti Try.prog 66 = some ⟨1, false, 8, [.flat .nilFunc], .none⟩ := (ti_eq _ _).trans (by kernel_rfl)
theorem al66 (s : ASt) (d : Nat) : aalloc Try.prog s d 66 = s.new d 1 [.flat .nilFunc] (.ptr (s.gh.nm d) s.gen 0) := aalloc_of ti66 s d
theorem bx66 (s : ASt) (d : Nat) (x : AVal) : abox Try.prog s d 66 x = (match cellsOf x with | some vs => s.new d 1 vs (.ptr (s.gh.nm d) s.gen 0) | none => none) := abox_of ti66 s d x
theorem ti69 : ti Try.prog 69 = some ⟨0, true, 0, [], .array 0 16⟩ := (ti_eq _ _).trans (by kernel_rfl)
theorem al69 (s : ASt) (d : Nat) : aalloc Try.prog s d 69 = s.new d 0 [] (.ptr (s.gh.nm d) s.gen 0) := aalloc_of ti69 s d
theorem bx69 (s : ASt) (d : Nat) (x : AVal) : abox Try.prog s d 69 x = (match cellsOf x with | some vs => s.new d 0 vs (.ptr (s.gh.nm d) s.gen 0) | none => none) := abox_of ti69 s d x
theorem ti72 : ti Try.prog 72 = some ⟨1, false, 8, [.flat .nilFunc], .none⟩ := (ti_eq _ _).trans (by kernel_rfl)
theorem al72 (s : ASt) (d : Nat) : aalloc Try.prog s d 72 = s.new d 1 [.flat .nilFunc] (.ptr (s.gh.nm d) s.gen 0) := aalloc_of ti72 s d
theorem bx72 (s : ASt) (d : Nat) (x : AVal) : abox Try.prog s d 72 x = (match cellsOf x with | some vs => s.new d 1 vs (.ptr (s.gh.nm d) s.gen 0) | none => none) := abox_of ti72 s d x
theorem ti73 : ti Try.prog 73 = some ⟨1, false, 4, [.flat (.int .u32 0)], .none⟩ := (ti_eq _ _).trans (by kernel_rfl)
theorem al73 (s : ASt) (d : Nat) : aalloc Try.prog s d 73 = s.new d 1 [.flat (.int .u32 0)] (.ptr (s.gh.nm d) s.gen 0) := aalloc_of ti73 s d
theorem bx73 (s : ASt) (d : Nat) (x : AVal) : abox Try.prog s d 73 x = (match cellsOf x with | some vs => s.new d 1 vs (.ptr (s.gh.nm d) s.gen 0) | none => none) := abox_of ti73 s d x
theorem ti76 : ti Try.prog 76 = some ⟨1, false, 8, [.flat .nilFunc], .none⟩ := (ti_eq _ _).trans (by kernel_rfl)
theorem al76 (s : ASt) (d : Nat) : aalloc Try.prog s d 76 = s.new d 1 [.flat .nilFunc] (.ptr (s.gh.nm d) s.gen 0) := aalloc_of ti76 s d
theorem bx76 (s : ASt) (d : Nat) (x : AVal) : abox Try.prog s d 76 x = (match cellsOf x with | some vs => s.new d 1 vs (.ptr (s.gh.nm d) s.gen 0) | none => none) := abox_of ti76 s d x
theorem ti77 : ti Try.prog 77 = some ⟨1, false, 8, [.flat (.pointer none)], .none⟩ := (ti_eq _ _).trans (by kernel_rfl)
theorem al77 (s : ASt) (d : Nat) : aalloc Try.prog s d 77 = s.new d 1 [.flat (.pointer none)] (.ptr (s.gh.nm d) s.gen 0) := aalloc_of ti77 s d
theorem bx77 (s : ASt) (d : Nat) (x : AVal) : abox Try.prog s d 77 x = (match cellsOf x with | some vs => s.new d 1 vs (.ptr (s.gh.nm d) s.gen 0) | none => none) := abox_of ti77 s d x
theorem ti80 : ti Try.prog 80 = some ⟨11, true, 48, [.flat (.int .u64 0), .flat (.int .u64 0), .flat (.int .u32 0), .flat (.int .u8 0), .flat (.int .u8 0), .flat (.int .u8 0), .flat (.int .u8 0), .flat .nilFunc, .flat (.pointer none), .flat (.int .i32 0), .flat (.int .i32 0)], .struct [(0, 12), (1, 12), (2, 73), (3, 74), (4, 5), (5, 5), (6, 75), (7, 76), (8, 77), (9, 78), (10, 79)]⟩ := (ti_eq _ _).trans (by kernel_rfl)
theorem al80 (s : ASt) (d : Nat) : aalloc Try.prog s d 80 = s.new d 11 [.flat (.int .u64 0), .flat (.int .u64 0), .flat (.int .u32 0), .flat (.int .u8 0), .flat (.int .u8 0), .flat (.int .u8 0), .flat (.int .u8 0), .flat .nilFunc, .flat (.pointer none), .flat (.int .i32 0), .flat (.int .i32 0)] (.ptr (s.gh.nm d) s.gen 0) := aalloc_of ti80 s d
theorem bx80 (s : ASt) (d : Nat) (x : AVal) : abox Try.prog s d 80 x = (match cellsOf x with | some vs => s.new d 11 vs (.ptr (s.gh.nm d) s.gen 0) | none => none) := abox_of ti80 s d x
theorem sem_neB (x y : Operand) (p q : Bool) : semS Try.prog (do eqGuard .neq 4 x y (.bool p) (.bool q); binOp .neq 4 (.bool p) (.bool q)) = some (.flat (.bool (!(p == q)))) := sem_neb Try.prog x y p q (by kernel_rfl)
theorem sem_eqB (x y : Operand) (p q : Bool) : semS Try.prog (do eqGuard .eql 4 x y (.bool p) (.bool q); binOp .eql 4 (.bool p) (.bool q)) = some (.flat (.bool (p == q))) := sem_eqb Try.prog x y p q (by kernel_rfl)
theorem tabS : type_of% (And.intro (And.intro (And.intro (And.intro (And.intro (And.intro (And.intro @ti1 @al1) (And.intro @bx1 (And.intro @ti2 @al2))) (And.intro (And.intro @bx2 @ti3) (And.intro @al3 (And.intro @bx3 @ti4)))) (And.intro (And.intro (And.intro @al4 @bx4) (And.intro @ti5 (And.intro @al5 @bx5))) (And.intro (And.intro @ti9 @al9) (And.intro @bx9 (And.intro @ti12 @al12))))) (And.intro (And.intro (And.intro (And.intro @bx12 @ti21) (And.intro @al21 (And.intro @bx21 @ti22))) (And.intro (And.intro @al22 @bx22) (And.intro @ti23 (And.intro @al23 @bx23)))) (And.intro (And.intro (And.intro @ti24 @al24) (And.intro @bx24 (And.intro @ti25 @al25))) (And.intro (And.intro @bx25 (And.intro @ti26 @al26)) (And.intro @bx26 (And.intro @ti27 @al27)))))) (And.intro (And.intro (And.intro (And.intro (And.intro @bx27 @ti28) (And.intro @al28 (And.intro @bx28 @ti30))) (And.intro (And.intro @al30 @bx30) (And.intro @ti32 (And.intro @al32 @bx32)))) (And.intro (And.intro (And.intro @ti33 @al33) (And.intro @bx33 (And.intro @ti35 @al35))) (And.intro (And.intro @bx35 @ti37) (And.intro @al37 (And.intro @bx37 @ti38))))) (And.intro (And.intro (And.intro (And.intro @al38 @bx38) (And.intro @ti39 (And.intro @al39 @bx39))) (And.intro (And.intro @ti40 @al40) (And.intro @bx40 (And.intro @ti42 @al42)))) (And.intro (And.intro (And.intro @bx42 @ti43) (And.intro @al43 (And.intro @bx43 @ti44))) (And.intro (And.intro @al44 (And.intro @bx44 @ti45)) (And.intro @al45 (And.intro @bx45 @ti46))))))) (And.intro (And.intro (And.intro (And.intro (And.intro (And.intro @al46 @bx46) (And.intro @ti47 (And.intro @al47 @bx47))) (And.intro (And.intro @ti48 @al48) (And.intro @bx48 (And.intro @ti49 @al49)))) (And.intro (And.intro (And.intro @bx49 @ti50) (And.intro @al50 (And.intro @bx50 @ti51))) (And.intro (And.intro @al51 @bx51) (And.intro @ti52 (And.intro @al52 @bx52))))) (And.intro (And.intro (And.intro (And.intro @ti53 @al53) (And.intro @bx53 (And.intro @ti54 @al54))) (And.intro (And.intro @bx54 @ti55) (And.intro @al55 (And.intro @bx55 @ti56)))) (And.intro (And.intro (And.intro @al56 @bx56) (And.intro @ti57 (And.intro @al57 @bx57))) (And.intro (And.intro @ti58 (And.intro @al58 @bx58)) (And.intro @ti59 (And.intro @al59 @bx59)))))) (And.intro (And.intro (And.intro (And.intro (And.intro @ti60 @al60) (And.intro @bx60 (And.intro @ti61 @al61))) (And.intro (And.intro @bx61 @ti62) (And.intro @al62 (And.intro @bx62 @ti63)))) (And.intro (And.intro (And.intro @al63 @bx63) (And.intro @ti64 (And.intro @al64 @bx64))) (And.intro (And.intro @ti65 @al65) (And.intro @bx65 (And.intro @ti66 @al66))))) (And.intro (And.intro (And.intro (And.intro @bx66 @ti69) (And.intro @al69 (And.intro @bx69 @ti72))) (And.intro (And.intro @al72 @bx72) (And.intro @ti73 (And.intro @al73 @bx73)))) (And.intro (And.intro (And.intro @ti76 @al76) (And.intro @bx76 (And.intro @ti77 @al77))) (And.intro (And.intro @bx77 (And.intro @ti80 @al80)) (And.intro @bx80 (And.intro @sem_neB @sem_eqB)))))))) := (And.intro (And.intro (And.intro (And.intro (And.intro (And.intro (And.intro @ti1 @al1) (And.intro @bx1 (And.intro @ti2 @al2))) (And.intro (And.intro @bx2 @ti3) (And.intro @al3 (And.intro @bx3 @ti4)))) (And.intro (And.intro (And.intro @al4 @bx4) (And.intro @ti5 (And.intro @al5 @bx5))) (And.intro (And.intro @ti9 @al9) (And.intro @bx9 (And.intro @ti12 @al12))))) (And.intro (And.intro (And.intro (And.intro @bx12 @ti21) (And.intro @al21 (And.intro @bx21 @ti22))) (And.intro (And.intro @al22 @bx22) (And.intro @ti23 (And.intro @al23 @bx23)))) (And.intro (And.intro (And.intro @ti24 @al24) (And.intro @bx24 (And.intro @ti25 @al25))) (And.intro (And.intro @bx25 (And.intro @ti26 @al26)) (And.intro @bx26 (And.intro @ti27 @al27)))))) (And.intro (And.intro (And.intro (And.intro (And.intro @bx27 @ti28) (And.intro @al28 (And.intro @bx28 @ti30))) (And.intro (And.intro @al30 @bx30) (And.intro @ti32 (And.intro @al32 @bx32)))) (And.intro (And.intro (And.intro @ti33 @al33) (And.intro @bx33 (And.intro @ti35 @al35))) (And.intro (And.intro @bx35 @ti37) (And.intro @al37 (And.intro @bx37 @ti38))))) (And.intro (And.intro (And.intro (And.intro @al38 @bx38) (And.intro @ti39 (And.intro @al39 @bx39))) (And.intro (And.intro @ti40 @al40) (And.intro @bx40 (And.intro @ti42 @al42)))) (And.intro (And.intro (And.intro @bx42 @ti43) (And.intro @al43 (And.intro @bx43 @ti44))) (And.intro (And.intro @al44 (And.intro @bx44 @ti45)) (And.intro @al45 (And.intro @bx45 @ti46))))))) (And.intro (And.intro (And.intro (And.intro (And.intro (And.intro @al46 @bx46) (And.intro @ti47 (And.intro @al47 @bx47))) (And.intro (And.intro @ti48 @al48) (And.intro @bx48 (And.intro @ti49 @al49)))) (And.intro (And.intro (And.intro @bx49 @ti50) (And.intro @al50 (And.intro @bx50 @ti51))) (And.intro (And.intro @al51 @bx51) (And.intro @ti52 (And.intro @al52 @bx52))))) (And.intro (And.intro (And.intro (And.intro @ti53 @al53) (And.intro @bx53 (And.intro @ti54 @al54))) (And.intro (And.intro @bx54 @ti55) (And.intro @al55 (And.intro @bx55 @ti56)))) (And.intro (And.intro (And.intro @al56 @bx56) (And.intro @ti57 (And.intro @al57 @bx57))) (And.intro (And.intro @ti58 (And.intro @al58 @bx58)) (And.intro @ti59 (And.intro @al59 @bx59)))))) (And.intro (And.intro (And.intro (And.intro (And.intro @ti60 @al60) (And.intro @bx60 (And.intro @ti61 @al61))) (And.intro (And.intro @bx61 @ti62) (And.intro @al62 (And.intro @bx62 @ti63)))) (And.intro (And.intro (And.intro @al63 @bx63) (And.intro @ti64 (And.intro @al64 @bx64))) (And.intro (And.intro @ti65 @al65) (And.intro @bx65 (And.intro @ti66 @al66))))) (And.intro (And.intro (And.intro (And.intro @bx66 @ti69) (And.intro @al69 (And.intro @bx69 @ti72))) (And.intro (And.intro @al72 @bx72) (And.intro @ti73 (And.intro @al73 @bx73)))) (And.intro (And.intro (And.intro @ti76 @al76) (And.intro @bx76 (And.intro @ti77 @al77))) (And.intro (And.intro @bx77 (And.intro @ti80 @al80)) (And.intro @bx80 (And.intro @sem_neB @sem_eqB))))))))
theorem mixed : Try.prog.follows .mixedOrders = true := by kernel_rfl
theorem laidOut : laidOutB Try.prog = true := by kernel_rfl
theorem ownK : ownKnob Try.prog.godebug = none := by kernel_rfl
end Go.Proofs.Ytngghngfgpiomaa
