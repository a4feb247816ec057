/-
  OWN WORK, printed by program: the types of this seat, as the walk over abstract states asks for them.
-/
import Derived.Test.YteempjinbolkaaaChecked
import Derived.Test.YteempjinbolkaaaOwnM
namespace Go.Proofs.Yteempjinbolkaaa
open Go Go.Own Go.Proofs
instance : GL := ⟨[], by simp⟩
theorem noGlobs (E : Env) : Globs E := fun p hp => by cases hp
theorem aalloc_of {P : Program} {t : TypeId} {i : TI} (h : ti P t = some i) (s : ASt) (d : Nat) : aalloc P s d t = s.new d i.size i.zero (.ptr (s.gh.nm d) s.gen 0) := by unfold aalloc; rw [h]
theorem abox_of {P : Program} {t : TypeId} {i : TI} (h : ti P t = some i) (s : ASt) (d : Nat) (x : AVal) : abox P s d t x = (match cellsOf x with | some vs => s.new d i.size vs (.ptr (s.gh.nm d) s.gen 0) | none => none) := by unfold abox; rw [h]; cases cellsOf x <;> rfl
theorem ti1 : ti Try.prog 1 = some ⟨1, false, 8, [.flat .nilFunc], .none⟩ := (ti_eq _ _).trans (by kernel_rfl)
theorem al1 (s : ASt) (d : Nat) : aalloc Try.prog s d 1 = s.new d 1 [.flat .nilFunc] (.ptr (s.gh.nm d) s.gen 0) := aalloc_of ti1 s d
theorem bx1 (s : ASt) (d : Nat) (x : AVal) : abox Try.prog s d 1 x = (match cellsOf x with | some vs => s.new d 1 vs (.ptr (s.gh.nm d) s.gen 0) | none => none) := abox_of ti1 s d x
theorem ti2 : ti Try.prog 2 = some ⟨1, false, 8, [.flat (.int .i64 0)], .none⟩ := (ti_eq _ _).trans (by kernel_rfl)
theorem al2 (s : ASt) (d : Nat) : aalloc Try.prog s d 2 = s.new d 1 [.flat (.int .i64 0)] (.ptr (s.gh.nm d) s.gen 0) := aalloc_of ti2 s d
theorem bx2 (s : ASt) (d : Nat) (x : AVal) : abox Try.prog s d 2 x = (match cellsOf x with | some vs => s.new d 1 vs (.ptr (s.gh.nm d) s.gen 0) | none => none) := abox_of ti2 s d x
theorem ti3 : ti Try.prog 3 = some ⟨1, false, 8, [.flat (.int .i64 0)], .none⟩ := (ti_eq _ _).trans (by kernel_rfl)
theorem al3 (s : ASt) (d : Nat) : aalloc Try.prog s d 3 = s.new d 1 [.flat (.int .i64 0)] (.ptr (s.gh.nm d) s.gen 0) := aalloc_of ti3 s d
theorem bx3 (s : ASt) (d : Nat) (x : AVal) : abox Try.prog s d 3 x = (match cellsOf x with | some vs => s.new d 1 vs (.ptr (s.gh.nm d) s.gen 0) | none => none) := abox_of ti3 s d x
theorem ti4 : ti Try.prog 4 = some ⟨1, false, 1, [.flat (.bool false)], .none⟩ := (ti_eq _ _).trans (by kernel_rfl)
theorem al4 (s : ASt) (d : Nat) : aalloc Try.prog s d 4 = s.new d 1 [.flat (.bool false)] (.ptr (s.gh.nm d) s.gen 0) := aalloc_of ti4 s d
theorem bx4 (s : ASt) (d : Nat) (x : AVal) : abox Try.prog s d 4 x = (match cellsOf x with | some vs => s.new d 1 vs (.ptr (s.gh.nm d) s.gen 0) | none => none) := abox_of ti4 s d x
theorem ti5 : ti Try.prog 5 = some ⟨1, false, 1, [.flat (.int .u8 0)], .none⟩ := (ti_eq _ _).trans (by kernel_rfl)
theorem al5 (s : ASt) (d : Nat) : aalloc Try.prog s d 5 = s.new d 1 [.flat (.int .u8 0)] (.ptr (s.gh.nm d) s.gen 0) := aalloc_of ti5 s d
theorem bx5 (s : ASt) (d : Nat) (x : AVal) : abox Try.prog s d 5 x = (match cellsOf x with | some vs => s.new d 1 vs (.ptr (s.gh.nm d) s.gen 0) | none => none) := abox_of ti5 s d x
theorem ti9 : ti Try.prog 9 = some ⟨1, false, 16, [.flat (.string ByteArray.empty)], .str⟩ := (ti_eq _ _).trans (by kernel_rfl)
theorem al9 (s : ASt) (d : Nat) : aalloc Try.prog s d 9 = s.new d 1 [.flat (.string ByteArray.empty)] (.ptr (s.gh.nm d) s.gen 0) := aalloc_of ti9 s d
theorem bx9 (s : ASt) (d : Nat) (x : AVal) : abox Try.prog s d 9 x = (match cellsOf x with | some vs => s.new d 1 vs (.ptr (s.gh.nm d) s.gen 0) | none => none) := abox_of ti9 s d x
theorem ti12 : ti Try.prog 12 = some ⟨1, false, 8, [.flat (.int .u64 0)], .none⟩ := (ti_eq _ _).trans (by kernel_rfl)
theorem al12 (s : ASt) (d : Nat) : aalloc Try.prog s d 12 = s.new d 1 [.flat (.int .u64 0)] (.ptr (s.gh.nm d) s.gen 0) := aalloc_of ti12 s d
theorem bx12 (s : ASt) (d : Nat) (x : AVal) : abox Try.prog s d 12 x = (match cellsOf x with | some vs => s.new d 1 vs (.ptr (s.gh.nm d) s.gen 0) | none => none) := abox_of ti12 s d x
theorem ti21 : ti Try.prog 21 = some ⟨1, false, 4, [.flat (.int .i32 0)], .none⟩ := (ti_eq _ _).trans (by kernel_rfl)
theorem al21 (s : ASt) (d : Nat) : aalloc Try.prog s d 21 = s.new d 1 [.flat (.int .i32 0)] (.ptr (s.gh.nm d) s.gen 0) := aalloc_of ti21 s d
theorem bx21 (s : ASt) (d : Nat) (x : AVal) : abox Try.prog s d 21 x = (match cellsOf x with | some vs => s.new d 1 vs (.ptr (s.gh.nm d) s.gen 0) | none => none) := abox_of ti21 s d x
theorem ti22 : ti Try.prog 22 = some ⟨1, false, 24, [.nl], .slice 5⟩ := (ti_eq _ _).trans (by kernel_rfl)
theorem al22 (s : ASt) (d : Nat) : aalloc Try.prog s d 22 = s.new d 1 [.nl] (.ptr (s.gh.nm d) s.gen 0) := aalloc_of ti22 s d
theorem bx22 (s : ASt) (d : Nat) (x : AVal) : abox Try.prog s d 22 x = (match cellsOf x with | some vs => s.new d 1 vs (.ptr (s.gh.nm d) s.gen 0) | none => none) := abox_of ti22 s d x
theorem ti23 : ti Try.prog 23 = some ⟨1, false, 8, [.flat .nilFunc], .none⟩ := (ti_eq _ _).trans (by kernel_rfl)
theorem al23 (s : ASt) (d : Nat) : aalloc Try.prog s d 23 = s.new d 1 [.flat .nilFunc] (.ptr (s.gh.nm d) s.gen 0) := aalloc_of ti23 s d
theorem bx23 (s : ASt) (d : Nat) (x : AVal) : abox Try.prog s d 23 x = (match cellsOf x with | some vs => s.new d 1 vs (.ptr (s.gh.nm d) s.gen 0) | none => none) := abox_of ti23 s d x
theorem ti24 : ti Try.prog 24 = some ⟨1, false, 24, [.nl], .slice 29⟩ := (ti_eq _ _).trans (by kernel_rfl)
theorem al24 (s : ASt) (d : Nat) : aalloc Try.prog s d 24 = s.new d 1 [.nl] (.ptr (s.gh.nm d) s.gen 0) := aalloc_of ti24 s d
theorem bx24 (s : ASt) (d : Nat) (x : AVal) : abox Try.prog s d 24 x = (match cellsOf x with | some vs => s.new d 1 vs (.ptr (s.gh.nm d) s.gen 0) | none => none) := abox_of ti24 s d x
theorem ti25 : ti Try.prog 25 = some ⟨2, true, 48, [.nl, .nl], .struct [(0, 24), (1, 24)]⟩ := (ti_eq _ _).trans (by kernel_rfl)
theorem al25 (s : ASt) (d : Nat) : aalloc Try.prog s d 25 = s.new d 2 [.nl, .nl] (.ptr (s.gh.nm d) s.gen 0) := aalloc_of ti25 s d
theorem bx25 (s : ASt) (d : Nat) (x : AVal) : abox Try.prog s d 25 x = (match cellsOf x with | some vs => s.new d 2 vs (.ptr (s.gh.nm d) s.gen 0) | none => none) := abox_of ti25 s d x
theorem ti26 : ti Try.prog 26 = some ⟨2, true, 48, [.nl, .nl], .struct [(0, 24), (1, 24)]⟩ := (ti_eq _ _).trans (by kernel_rfl)
theorem al26 (s : ASt) (d : Nat) : aalloc Try.prog s d 26 = s.new d 2 [.nl, .nl] (.ptr (s.gh.nm d) s.gen 0) := aalloc_of ti26 s d
theorem bx26 (s : ASt) (d : Nat) (x : AVal) : abox Try.prog s d 26 x = (match cellsOf x with | some vs => s.new d 2 vs (.ptr (s.gh.nm d) s.gen 0) | none => none) := abox_of ti26 s d x
theorem ti27 : ti Try.prog 27 = some ⟨1, false, 8, [.flat .nilFunc], .none⟩ := (ti_eq _ _).trans (by kernel_rfl)
theorem al27 (s : ASt) (d : Nat) : aalloc Try.prog s d 27 = s.new d 1 [.flat .nilFunc] (.ptr (s.gh.nm d) s.gen 0) := aalloc_of ti27 s d
theorem bx27 (s : ASt) (d : Nat) (x : AVal) : abox Try.prog s d 27 x = (match cellsOf x with | some vs => s.new d 1 vs (.ptr (s.gh.nm d) s.gen 0) | none => none) := abox_of ti27 s d x
theorem ti28 : ti Try.prog 28 = some ⟨1, false, 8, [.flat .nilFunc], .none⟩ := (ti_eq _ _).trans (by kernel_rfl)
theorem al28 (s : ASt) (d : Nat) : aalloc Try.prog s d 28 = s.new d 1 [.flat .nilFunc] (.ptr (s.gh.nm d) s.gen 0) := aalloc_of ti28 s d
theorem bx28 (s : ASt) (d : Nat) (x : AVal) : abox Try.prog s d 28 x = (match cellsOf x with | some vs => s.new d 1 vs (.ptr (s.gh.nm d) s.gen 0) | none => none) := abox_of ti28 s d x
theorem ti29 : ti Try.prog 29 = some ⟨1, false, 24, [.nl], .slice 2⟩ := (ti_eq _ _).trans (by kernel_rfl)
theorem al29 (s : ASt) (d : Nat) : aalloc Try.prog s d 29 = s.new d 1 [.nl] (.ptr (s.gh.nm d) s.gen 0) := aalloc_of ti29 s d
theorem bx29 (s : ASt) (d : Nat) (x : AVal) : abox Try.prog s d 29 x = (match cellsOf x with | some vs => s.new d 1 vs (.ptr (s.gh.nm d) s.gen 0) | none => none) := abox_of ti29 s d x
theorem ti31 : ti Try.prog 31 = some ⟨1, false, 8, [.flat .nilFunc], .none⟩ := (ti_eq _ _).trans (by kernel_rfl)
theorem al31 (s : ASt) (d : Nat) : aalloc Try.prog s d 31 = s.new d 1 [.flat .nilFunc] (.ptr (s.gh.nm d) s.gen 0) := aalloc_of ti31 s d
theorem bx31 (s : ASt) (d : Nat) (x : AVal) : abox Try.prog s d 31 x = (match cellsOf x with | some vs => s.new d 1 vs (.ptr (s.gh.nm d) s.gen 0) | none => none) := abox_of ti31 s d x
theorem ti33 : ti Try.prog 33 = some ⟨1, false, 8, [.flat .nilFunc], .none⟩ := (ti_eq _ _).trans (by kernel_rfl)
theorem al33 (s : ASt) (d : Nat) : aalloc Try.prog s d 33 = s.new d 1 [.flat .nilFunc] (.ptr (s.gh.nm d) s.gen 0) := aalloc_of ti33 s d
theorem bx33 (s : ASt) (d : Nat) (x : AVal) : abox Try.prog s d 33 x = (match cellsOf x with | some vs => s.new d 1 vs (.ptr (s.gh.nm d) s.gen 0) | none => none) := abox_of ti33 s d x
theorem ti34 : ti Try.prog 34 = some ⟨1, false, 8, [.flat .nilFunc], .none⟩ := (ti_eq _ _).trans (by kernel_rfl)
theorem al34 (s : ASt) (d : Nat) : aalloc Try.prog s d 34 = s.new d 1 [.flat .nilFunc] (.ptr (s.gh.nm d) s.gen 0) := aalloc_of ti34 s d
theorem bx34 (s : ASt) (d : Nat) (x : AVal) : abox Try.prog s d 34 x = (match cellsOf x with | some vs => s.new d 1 vs (.ptr (s.gh.nm d) s.gen 0) | none => none) := abox_of ti34 s d x
theorem ti35 : ti Try.prog 35 = some ⟨1, false, 8, [.flat .nilFunc], .none⟩ := (ti_eq _ _).trans (by kernel_rfl)
theorem al35 (s : ASt) (d : Nat) : aalloc Try.prog s d 35 = s.new d 1 [.flat .nilFunc] (.ptr (s.gh.nm d) s.gen 0) := aalloc_of ti35 s d
theorem bx35 (s : ASt) (d : Nat) (x : AVal) : abox Try.prog s d 35 x = (match cellsOf x with | some vs => s.new d 1 vs (.ptr (s.gh.nm d) s.gen 0) | none => none) := abox_of ti35 s d x
theorem ti36 : ti Try.prog 36 = some ⟨1, false, 8, [.flat .nilFunc], .none⟩ := (ti_eq _ _).trans (by kernel_rfl)
theorem al36 (s : ASt) (d : Nat) : aalloc Try.prog s d 36 = s.new d 1 [.flat .nilFunc] (.ptr (s.gh.nm d) s.gen 0) := aalloc_of ti36 s d
theorem bx36 (s : ASt) (d : Nat) (x : AVal) : abox Try.prog s d 36 x = (match cellsOf x with | some vs => s.new d 1 vs (.ptr (s.gh.nm d) s.gen 0) | none => none) := abox_of ti36 s d x
theorem ti37 : ti Try.prog 37 = some ⟨1, false, 8, [.flat .nilFunc], .none⟩ := (ti_eq _ _).trans (by kernel_rfl)
theorem al37 (s : ASt) (d : Nat) : aalloc Try.prog s d 37 = s.new d 1 [.flat .nilFunc] (.ptr (s.gh.nm d) s.gen 0) := aalloc_of ti37 s d
theorem bx37 (s : ASt) (d : Nat) (x : AVal) : abox Try.prog s d 37 x = (match cellsOf x with | some vs => s.new d 1 vs (.ptr (s.gh.nm d) s.gen 0) | none => none) := abox_of ti37 s d x
theorem ti38 : ti Try.prog 38 = some ⟨1, false, 8, [.flat .nilFunc], .none⟩ := (ti_eq _ _).trans (by kernel_rfl)
theorem al38 (s : ASt) (d : Nat) : aalloc Try.prog s d 38 = s.new d 1 [.flat .nilFunc] (.ptr (s.gh.nm d) s.gen 0) := aalloc_of ti38 s d
theorem bx38 (s : ASt) (d : Nat) (x : AVal) : abox Try.prog s d 38 x = (match cellsOf x with | some vs => s.new d 1 vs (.ptr (s.gh.nm d) s.gen 0) | none => none) := abox_of ti38 s d x
theorem ti39 : ti Try.prog 39 = some ⟨1, false, 8, [.flat .nilFunc], .none⟩ := (ti_eq _ _).trans (by kernel_rfl)
theorem al39 (s : ASt) (d : Nat) : aalloc Try.prog s d 39 = s.new d 1 [.flat .nilFunc] (.ptr (s.gh.nm d) s.gen 0) := aalloc_of ti39 s d
theorem bx39 (s : ASt) (d : Nat) (x : AVal) : abox Try.prog s d 39 x = (match cellsOf x with | some vs => s.new d 1 vs (.ptr (s.gh.nm d) s.gen 0) | none => none) := abox_of ti39 s d x
theorem ti40 : ti Try.prog 40 = some ⟨1, false, 8, [.flat .nilFunc], .none⟩ := (ti_eq _ _).trans (by kernel_rfl)
theorem al40 (s : ASt) (d : Nat) : aalloc Try.prog s d 40 = s.new d 1 [.flat .nilFunc] (.ptr (s.gh.nm d) s.gen 0) := aalloc_of ti40 s d
theorem bx40 (s : ASt) (d : Nat) (x : AVal) : abox Try.prog s d 40 x = (match cellsOf x with | some vs => s.new d 1 vs (.ptr (s.gh.nm d) s.gen 0) | none => none) := abox_of ti40 s d x
theorem ti41 : ti Try.prog 41 = some ⟨1, false, 8, [.flat .nilFunc], .none⟩ := (ti_eq _ _).trans (by kernel_rfl)
theorem al41 (s : ASt) (d : Nat) : aalloc Try.prog s d 41 = s.new d 1 [.flat .nilFunc] (.ptr (s.gh.nm d) s.gen 0) := aalloc_of ti41 s d
theorem bx41 (s : ASt) (d : Nat) (x : AVal) : abox Try.prog s d 41 x = (match cellsOf x with | some vs => s.new d 1 vs (.ptr (s.gh.nm d) s.gen 0) | none => none) := abox_of ti41 s d x
theorem ti43 : ti Try.prog 43 = some ⟨1, false, 8, [.flat .nilFunc], .none⟩ := (ti_eq _ _).trans (by kernel_rfl)
theorem al43 (s : ASt) (d : Nat) : aalloc Try.prog s d 43 = s.new d 1 [.flat .nilFunc] (.ptr (s.gh.nm d) s.gen 0) := aalloc_of ti43 s d
theorem bx43 (s : ASt) (d : Nat) (x : AVal) : abox Try.prog s d 43 x = (match cellsOf x with | some vs => s.new d 1 vs (.ptr (s.gh.nm d) s.gen 0) | none => none) := abox_of ti43 s d x
theorem ti44 : ti Try.prog 44 = some ⟨1, false, 8, [.flat .nilFunc], .none⟩ := (ti_eq _ _).trans (by kernel_rfl)
theorem al44 (s : ASt) (d : Nat) : aalloc Try.prog s d 44 = s.new d 1 [.flat .nilFunc] (.ptr (s.gh.nm d) s.gen 0) := aalloc_of ti44 s d
theorem bx44 (s : ASt) (d : Nat) (x : AVal) : abox Try.prog s d 44 x = (match cellsOf x with | some vs => s.new d 1 vs (.ptr (s.gh.nm d) s.gen 0) | none => none) := abox_of ti44 s d x
theorem ti45 : ti Try.prog 45 = some ⟨1, false, 8, [.flat .nilFunc], .none⟩ := (ti_eq _ _).trans (by kernel_rfl)
theorem al45 (s : ASt) (d : Nat) : aalloc Try.prog s d 45 = s.new d 1 [.flat .nilFunc] (.ptr (s.gh.nm d) s.gen 0) := aalloc_of ti45 s d
theorem bx45 (s : ASt) (d : Nat) (x : AVal) : abox Try.prog s d 45 x = (match cellsOf x with | some vs => s.new d 1 vs (.ptr (s.gh.nm d) s.gen 0) | none => none) := abox_of ti45 s d x
theorem ti46 : ti Try.prog 46 = some ⟨1, false, 8, [.flat .nilFunc], .none⟩ := (ti_eq _ _).trans (by kernel_rfl)
theorem al46 (s : ASt) (d : Nat) : aalloc Try.prog s d 46 = s.new d 1 [.flat .nilFunc] (.ptr (s.gh.nm d) s.gen 0) := aalloc_of ti46 s d
theorem bx46 (s : ASt) (d : Nat) (x : AVal) : abox Try.prog s d 46 x = (match cellsOf x with | some vs => s.new d 1 vs (.ptr (s.gh.nm d) s.gen 0) | none => none) := abox_of ti46 s d x
theorem ti47 : ti Try.prog 47 = some ⟨1, false, 8, [.flat .nilFunc], .none⟩ := (ti_eq _ _).trans (by kernel_rfl)
theorem al47 (s : ASt) (d : Nat) : aalloc Try.prog s d 47 = s.new d 1 [.flat .nilFunc] (.ptr (s.gh.nm d) s.gen 0) := aalloc_of ti47 s d
theorem bx47 (s : ASt) (d : Nat) (x : AVal) : abox Try.prog s d 47 x = (match cellsOf x with | some vs => s.new d 1 vs (.ptr (s.gh.nm d) s.gen 0) | none => none) := abox_of ti47 s d x
theorem ti49 : ti Try.prog 49 = some ⟨1, false, 8, [.flat .nilFunc], .none⟩ := (ti_eq _ _).trans (by kernel_rfl)
theorem al49 (s : ASt) (d : Nat) : aalloc Try.prog s d 49 = s.new d 1 [.flat .nilFunc] (.ptr (s.gh.nm d) s.gen 0) := aalloc_of ti49 s d
theorem bx49 (s : ASt) (d : Nat) (x : AVal) : abox Try.prog s d 49 x = (match cellsOf x with | some vs => s.new d 1 vs (.ptr (s.gh.nm d) s.gen 0) | none => none) := abox_of ti49 s d x
theorem ti50 : ti Try.prog 50 = some ⟨1, false, 8, [.flat (.pointer none)], .none⟩ := (ti_eq _ _).trans (by kernel_rfl)
theorem al50 (s : ASt) (d : Nat) : aalloc Try.prog s d 50 = s.new d 1 [.flat (.pointer none)] (.ptr (s.gh.nm d) s.gen 0) := aalloc_of ti50 s d
theorem bx50 (s : ASt) (d : Nat) (x : AVal) : abox Try.prog s d 50 x = (match cellsOf x with | some vs => s.new d 1 vs (.ptr (s.gh.nm d) s.gen 0) | none => none) := abox_of ti50 s d x
theorem ti51 : ti Try.prog 51 = some ⟨1, false, 8, [.flat .nilFunc], .none⟩ := (ti_eq _ _).trans (by kernel_rfl)
theorem al51 (s : ASt) (d : Nat) : aalloc Try.prog s d 51 = s.new d 1 [.flat .nilFunc] (.ptr (s.gh.nm d) s.gen 0) := aalloc_of ti51 s d
theorem bx51 (s : ASt) (d : Nat) (x : AVal) : abox Try.prog s d 51 x = (match cellsOf x with | some vs => s.new d 1 vs (.ptr (s.gh.nm d) s.gen 0) | none => none) := abox_of ti51 s d x
theorem ti52 : ti Try.prog 52 = some ⟨1, false, 8, [.flat .nilFunc], .none⟩ := (ti_eq _ _).trans (by kernel_rfl)
theorem al52 (s : ASt) (d : Nat) : aalloc Try.prog s d 52 = s.new d 1 [.flat .nilFunc] (.ptr (s.gh.nm d) s.gen 0) := aalloc_of ti52 s d
theorem bx52 (s : ASt) (d : Nat) (x : AVal) : abox Try.prog s d 52 x = (match cellsOf x with | some vs => s.new d 1 vs (.ptr (s.gh.nm d) s.gen 0) | none => none) := abox_of ti52 s d x
theorem ti53 : ti Try.prog 53 = some ⟨1, false, 8, [.flat .nilFunc], .none⟩ := (ti_eq _ _).trans (by kernel_rfl)
theorem al53 (s : ASt) (d : Nat) : aalloc Try.prog s d 53 = s.new d 1 [.flat .nilFunc] (.ptr (s.gh.nm d) s.gen 0) := aalloc_of ti53 s d
theorem bx53 (s : ASt) (d : Nat) (x : AVal) : abox Try.prog s d 53 x = (match cellsOf x with | some vs => s.new d 1 vs (.ptr (s.gh.nm d) s.gen 0) | none => none) := abox_of ti53 s d x
theorem ti54 : ti Try.prog 54 = some ⟨1, false, 8, [.flat .nilFunc], .none⟩ := (ti_eq _ _).trans (by kernel_rfl)
theorem al54 (s : ASt) (d : Nat) : aalloc Try.prog s d 54 = s.new d 1 [.flat .nilFunc] (.ptr (s.gh.nm d) s.gen 0) := aalloc_of ti54 s d
theorem bx54 (s : ASt) (d : Nat) (x : AVal) : abox Try.prog s d 54 x = (match cellsOf x with | some vs => s.new d 1 vs (.ptr (s.gh.nm d) s.gen 0) | none => none) := abox_of ti54 s d x
theorem ti55 : ti Try.prog 55 = some ⟨1, false, 8, [.flat .nilFunc], .none⟩ := (ti_eq _ _).trans (by kernel_rfl)
theorem al55 (s : ASt) (d : Nat) : aalloc Try.prog s d 55 = s.new d 1 [.flat .nilFunc] (.ptr (s.gh.nm d) s.gen 0) := aalloc_of ti55 s d
theorem bx55 (s : ASt) (d : Nat) (x : AVal) : abox Try.prog s d 55 x = (match cellsOf x with | some vs => s.new d 1 vs (.ptr (s.gh.nm d) s.gen 0) | none => none) := abox_of ti55 s d x
theorem ti56 : ti Try.prog 56 = some ⟨6, true, 112, [.nl, .nl, .flat (.int .i64 0), .flat (.int .i64 0), .nl, .nl], .struct [(0, 26), (2, 2), (3, 2), (4, 29), (5, 29)]⟩ := (ti_eq _ _).trans (by kernel_rfl)
theorem al56 (s : ASt) (d : Nat) : aalloc Try.prog s d 56 = s.new d 6 [.nl, .nl, .flat (.int .i64 0), .flat (.int .i64 0), .nl, .nl] (.ptr (s.gh.nm d) s.gen 0) := aalloc_of ti56 s d
theorem bx56 (s : ASt) (d : Nat) (x : AVal) : abox Try.prog s d 56 x = (match cellsOf x with | some vs => s.new d 6 vs (.ptr (s.gh.nm d) s.gen 0) | none => none) := abox_of ti56 s d x
theorem ti57 : ti Try.prog 57 = some ⟨6, true, 112, [.nl, .nl, .flat (.int .i64 0), .flat (.int .i64 0), .nl, .nl], .struct [(0, 26), (2, 2), (3, 2), (4, 29), (5, 29)]⟩ := (ti_eq _ _).trans (by kernel_rfl)
theorem al57 (s : ASt) (d : Nat) : aalloc Try.prog s d 57 = s.new d 6 [.nl, .nl, .flat (.int .i64 0), .flat (.int .i64 0), .nl, .nl] (.ptr (s.gh.nm d) s.gen 0) := aalloc_of ti57 s d
theorem bx57 (s : ASt) (d : Nat) (x : AVal) : abox Try.prog s d 57 x = (match cellsOf x with | some vs => s.new d 6 vs (.ptr (s.gh.nm d) s.gen 0) | none => none) := abox_of ti57 s d x
theorem ti58 : ti Try.prog 58 = some ⟨1, false, 8, [.flat .nilFunc], .none⟩ := (ti_eq _ _).trans (by kernel_rfl)
theorem al58 (s : ASt) (d : Nat) : aalloc Try.prog s d 58 = s.new d 1 [.flat .nilFunc] (.ptr (s.gh.nm d) s.gen 0) := aalloc_of ti58 s d
theorem bx58 (s : ASt) (d : Nat) (x : AVal) : abox Try.prog s d 58 x = (match cellsOf x with | some vs => s.new d 1 vs (.ptr (s.gh.nm d) s.gen 0) | none => none) := abox_of ti58 s d x
theorem ti59 : ti Try.prog 59 = some ⟨1, false, 8, [.flat .nilFunc], .none⟩ := (ti_eq _ _).trans (by kernel_rfl)
theorem al59 (s : ASt) (d : Nat) : aalloc Try.prog s d 59 = s.new d 1 [.flat .nilFunc] (.ptr (s.gh.nm d) s.gen 0) := aalloc_of ti59 s d
theorem bx59 (s : ASt) (d : Nat) (x : AVal) : abox Try.prog s d 59 x = (match cellsOf x with | some vs => s.new d 1 vs (.ptr (s.gh.nm d) s.gen 0) | none => none) := abox_of ti59 s d x
theorem ti60 : ti Try.prog 60 = some ⟨1, false, 8, [.flat .nilFunc], .none⟩ := (ti_eq _ _).trans (by kernel_rfl)
theorem al60 (s : ASt) (d : Nat) : aalloc Try.prog s d 60 = s.new d 1 [.flat .nilFunc] (.ptr (s.gh.nm d) s.gen 0) := aalloc_of ti60 s d
theorem bx60 (s : ASt) (d : Nat) (x : AVal) : abox Try.prog s d 60 x = (match cellsOf x with | some vs => s.new d 1 vs (.ptr (s.gh.nm d) s.gen 0) | none => none) := abox_of ti60 s d x
theorem ti61 : ti Try.prog 61 = some ⟨1, false, 8, [.flat .nilFunc], .none⟩ := (ti_eq _ _).trans (by kernel_rfl)
theorem al61 (s : ASt) (d : Nat) : aalloc Try.prog s d 61 = s.new d 1 [.flat .nilFunc] (.ptr (s.gh.nm d) s.gen 0) := aalloc_of ti61 s d
theorem bx61 (s : ASt) (d : Nat) (x : AVal) : abox Try.prog s d 61 x = (match cellsOf x with | some vs => s.new d 1 vs (.ptr (s.gh.nm d) s.gen 0) | none => none) := abox_of ti61 s d x
theorem ti62 : ti Try.prog 62 = some ⟨1, false, 8, [.flat (.pointer none)], .none⟩ := (ti_eq _ _).trans (by kernel_rfl)
theorem al62 (s : ASt) (d : Nat) : aalloc Try.prog s d 62 = s.new d 1 [.flat (.pointer none)] (.ptr (s.gh.nm d) s.gen 0) := aalloc_of ti62 s d
theorem bx62 (s : ASt) (d : Nat) (x : AVal) : abox Try.prog s d 62 x = (match cellsOf x with | some vs => s.new d 1 vs (.ptr (s.gh.nm d) s.gen 0) | none => none) := abox_of ti62 s d x
theorem ti63 : ti Try.prog 63 = some ⟨1, false, 8, [.flat (.pointer none)], .none⟩ := (ti_eq _ _).trans (by kernel_rfl)
theorem al63 (s : ASt) (d : Nat) : aalloc Try.prog s d 63 = s.new d 1 [.flat (.pointer none)] (.ptr (s.gh.nm d) s.gen 0) := aalloc_of ti63 s d
theorem bx63 (s : ASt) (d : Nat) (x : AVal) : abox Try.prog s d 63 x = (match cellsOf x with | some vs => s.new d 1 vs (.ptr (s.gh.nm d) s.gen 0) | none => none) := abox_of ti63 s d x
theorem ti64 : ti Try.prog 64 = some ⟨1, false, 8, [.flat .nilFunc], .none⟩ := (ti_eq _ _).trans (by kernel_rfl)
theorem al64 (s : ASt) (d : Nat) : aalloc Try.prog s d 64 = s.new d 1 [.flat .nilFunc] (.ptr (s.gh.nm d) s.gen 0) := aalloc_of ti64 s d
theorem bx64 (s : ASt) (d : Nat) (x : AVal) : abox Try.prog s d 64 x = (match cellsOf x with | some vs => s.new d 1 vs (.ptr (s.gh.nm d) s.gen 0) | none => none) := abox_of ti64 s d x
theorem ti65 : ti Try.prog 65 = some ⟨8, true, 96, [.flat (.pointer none), .nl, .flat (.int .i64 0), .flat (.int .i64 0), .flat (.int .i64 0), .flat (.int .i64 0), .nl, .flat (.bool false)], .struct [(0, 62), (1, 29), (2, 2), (3, 2), (4, 2), (5, 2), (6, 29), (7, 4)]⟩ := (ti_eq _ _).trans (by kernel_rfl)
theorem al65 (s : ASt) (d : Nat) : aalloc Try.prog s d 65 = s.new d 8 [.flat (.pointer none), .nl, .flat (.int .i64 0), .flat (.int .i64 0), .flat (.int .i64 0), .flat (.int .i64 0), .nl, .flat (.bool false)] (.ptr (s.gh.nm d) s.gen 0) := aalloc_of ti65 s d
theorem bx65 (s : ASt) (d : Nat) (x : AVal) : abox Try.prog s d 65 x = (match cellsOf x with | some vs => s.new d 8 vs (.ptr (s.gh.nm d) s.gen 0) | none => none) := abox_of ti65 s d x
theorem ti66 : ti Try.prog 66 = some ⟨8, true, 96, [.flat (.pointer none), .nl, .flat (.int .i64 0), .flat (.int .i64 0), .flat (.int .i64 0), .flat (.int .i64 0), .nl, .flat (.bool false)], .struct [(0, 62), (1, 29), (2, 2), (3, 2), (4, 2), (5, 2), (6, 29), (7, 4)]⟩ := (ti_eq _ _).trans (by kernel_rfl)
theorem al66 (s : ASt) (d : Nat) : aalloc Try.prog s d 66 = s.new d 8 [.flat (.pointer none), .nl, .flat (.int .i64 0), .flat (.int .i64 0), .flat (.int .i64 0), .flat (.int .i64 0), .nl, .flat (.bool false)] (.ptr (s.gh.nm d) s.gen 0) := aalloc_of ti66 s d
theorem bx66 (s : ASt) (d : Nat) (x : AVal) : abox Try.prog s d 66 x = (match cellsOf x with | some vs => s.new d 8 vs (.ptr (s.gh.nm d) s.gen 0) | none => none) := abox_of ti66 s d x
theorem ti67 : ti Try.prog 67 = some ⟨1, false, 8, [.flat .nilFunc], .none⟩ := (ti_eq _ _).trans (by kernel_rfl)
theorem al67 (s : ASt) (d : Nat) : aalloc Try.prog s d 67 = s.new d 1 [.flat .nilFunc] (.ptr (s.gh.nm d) s.gen 0) := aalloc_of ti67 s d
theorem bx67 (s : ASt) (d : Nat) (x : AVal) : abox Try.prog s d 67 x = (match cellsOf x with | some vs => s.new d 1 vs (.ptr (s.gh.nm d) s.gen 0) | none => none) := abox_of ti67 s d x
theorem ti68 : ti Try.prog 68 = some ⟨7, true, 104, [.nl, .nl, .flat (.int .i64 0), .flat (.bool false), .flat (.int .i64 0), .nl, .flat (.int .i64 0)], .struct [(0, 26), (2, 2), (3, 4), (4, 2), (5, 29), (6, 2)]⟩ := (ti_eq _ _).trans (by kernel_rfl)
theorem al68 (s : ASt) (d : Nat) : aalloc Try.prog s d 68 = s.new d 7 [.nl, .nl, .flat (.int .i64 0), .flat (.bool false), .flat (.int .i64 0), .nl, .flat (.int .i64 0)] (.ptr (s.gh.nm d) s.gen 0) := aalloc_of ti68 s d
theorem bx68 (s : ASt) (d : Nat) (x : AVal) : abox Try.prog s d 68 x = (match cellsOf x with | some vs => s.new d 7 vs (.ptr (s.gh.nm d) s.gen 0) | none => none) := abox_of ti68 s d x
theorem ti69 : ti Try.prog 69 = some ⟨7, true, 104, [.nl, .nl, .flat (.int .i64 0), .flat (.bool false), .flat (.int .i64 0), .nl, .flat (.int .i64 0)], .struct [(0, 26), (2, 2), (3, 4), (4, 2), (5, 29), (6, 2)]⟩ := (ti_eq _ _).trans (by kernel_rfl)
theorem al69 (s : ASt) (d : Nat) : aalloc Try.prog s d 69 = s.new d 7 [.nl, .nl, .flat (.int .i64 0), .flat (.bool false), .flat (.int .i64 0), .nl, .flat (.int .i64 0)] (.ptr (s.gh.nm d) s.gen 0) := aalloc_of ti69 s d
theorem bx69 (s : ASt) (d : Nat) (x : AVal) : abox Try.prog s d 69 x = (match cellsOf x with | some vs => s.new d 7 vs (.ptr (s.gh.nm d) s.gen 0) | none => none) := abox_of ti69 s d x
theorem ti70 : ti Try.prog 70 = some ⟨1, false, 8, [.flat .nilFunc], .none⟩ := (ti_eq _ _).trans (by kernel_rfl)
theorem al70 (s : ASt) (d : Nat) : aalloc Try.prog s d 70 = s.new d 1 [.flat .nilFunc] (.ptr (s.gh.nm d) s.gen 0) := aalloc_of ti70 s d
theorem bx70 (s : ASt) (d : Nat) (x : AVal) : abox Try.prog s d 70 x = (match cellsOf x with | some vs => s.new d 1 vs (.ptr (s.gh.nm d) s.gen 0) | none => none) := abox_of ti70 s d x
theorem ti71 : ti Try.prog 71 = some ⟨1, false, 8, [.flat .nilFunc], .none⟩ := (ti_eq _ _).trans (by kernel_rfl)
theorem al71 (s : ASt) (d : Nat) : aalloc Try.prog s d 71 = s.new d 1 [.flat .nilFunc] (.ptr (s.gh.nm d) s.gen 0) := aalloc_of ti71 s d
theorem bx71 (s : ASt) (d : Nat) (x : AVal) : abox Try.prog s d 71 x = (match cellsOf x with | some vs => s.new d 1 vs (.ptr (s.gh.nm d) s.gen 0) | none => none) := abox_of ti71 s d x
theorem ti72 : ti Try.prog 72 = some ⟨1, false, 8, [.flat .nilFunc], .none⟩ := (ti_eq _ _).trans (by kernel_rfl)
theorem al72 (s : ASt) (d : Nat) : aalloc Try.prog s d 72 = s.new d 1 [.flat .nilFunc] (.ptr (s.gh.nm d) s.gen 0) := aalloc_of ti72 s d
theorem bx72 (s : ASt) (d : Nat) (x : AVal) : abox Try.prog s d 72 x = (match cellsOf x with | some vs => s.new d 1 vs (.ptr (s.gh.nm d) s.gen 0) | none => none) := abox_of ti72 s d x
theorem ti73 : ti Try.prog 73 = some ⟨1, false, 8, [.flat (.pointer none)], .none⟩ := (ti_eq _ _).trans (by kernel_rfl)
theorem al73 (s : ASt) (d : Nat) : aalloc Try.prog s d 73 = s.new d 1 [.flat (.pointer none)] (.ptr (s.gh.nm d) s.gen 0) := aalloc_of ti73 s d
theorem bx73 (s : ASt) (d : Nat) (x : AVal) : abox Try.prog s d 73 x = (match cellsOf x with | some vs => s.new d 1 vs (.ptr (s.gh.nm d) s.gen 0) | none => none) := abox_of ti73 s d x
theorem ti74 : ti Try.prog 74 = some ⟨1, false, 8, [.flat .nilFunc], .none⟩ := (ti_eq _ _).trans (by kernel_rfl)
theorem al74 (s : ASt) (d : Nat) : aalloc Try.prog s d 74 = s.new d 1 [.flat .nilFunc] (.ptr (s.gh.nm d) s.gen 0) := aalloc_of ti74 s d
theorem bx74 (s : ASt) (d : Nat) (x : AVal) : abox Try.prog s d 74 x = (match cellsOf x with | some vs => s.new d 1 vs (.ptr (s.gh.nm d) s.gen 0) | none => none) := abox_of ti74 s d x
theorem ti75 : ti Try.prog 75 = some ⟨6, true, 80, [.flat (.pointer none), .flat (.int .i64 0), .nl, .nl, .flat (.int .i64 0), .flat (.int .i64 0)], .struct [(0, 62), (1, 2), (2, 29), (3, 29), (4, 2), (5, 2)]⟩ := (ti_eq _ _).trans (by kernel_rfl)
theorem al75 (s : ASt) (d : Nat) : aalloc Try.prog s d 75 = s.new d 6 [.flat (.pointer none), .flat (.int .i64 0), .nl, .nl, .flat (.int .i64 0), .flat (.int .i64 0)] (.ptr (s.gh.nm d) s.gen 0) := aalloc_of ti75 s d
theorem bx75 (s : ASt) (d : Nat) (x : AVal) : abox Try.prog s d 75 x = (match cellsOf x with | some vs => s.new d 6 vs (.ptr (s.gh.nm d) s.gen 0) | none => none) := abox_of ti75 s d x
theorem ti76 : ti Try.prog 76 = some ⟨6, true, 80, [.flat (.pointer none), .flat (.int .i64 0), .nl, .nl, .flat (.int .i64 0), .flat (.int .i64 0)], .struct [(0, 62), (1, 2), (2, 29), (3, 29), (4, 2), (5, 2)]⟩ := (ti_eq _ _).trans (by kernel_rfl)
theorem al76 (s : ASt) (d : Nat) : aalloc Try.prog s d 76 = s.new d 6 [.flat (.pointer none), .flat (.int .i64 0), .nl, .nl, .flat (.int .i64 0), .flat (.int .i64 0)] (.ptr (s.gh.nm d) s.gen 0) := aalloc_of ti76 s d
theorem bx76 (s : ASt) (d : Nat) (x : AVal) : abox Try.prog s d 76 x = (match cellsOf x with | some vs => s.new d 6 vs (.ptr (s.gh.nm d) s.gen 0) | none => none) := abox_of ti76 s d x
theorem ti77 : ti Try.prog 77 = some ⟨1, false, 8, [.flat .nilFunc], .none⟩ := (ti_eq _ _).trans (by kernel_rfl)
theorem al77 (s : ASt) (d : Nat) : aalloc Try.prog s d 77 = s.new d 1 [.flat .nilFunc] (.ptr (s.gh.nm d) s.gen 0) := aalloc_of ti77 s d
theorem bx77 (s : ASt) (d : Nat) (x : AVal) : abox Try.prog s d 77 x = (match cellsOf x with | some vs => s.new d 1 vs (.ptr (s.gh.nm d) s.gen 0) | none => none) := abox_of ti77 s d x
theorem ti78 : ti Try.prog 78 = some ⟨1, false, 8, [.flat .nilFunc], .none⟩ := (ti_eq _ _).trans (by kernel_rfl)
theorem al78 (s : ASt) (d : Nat) : aalloc Try.prog s d 78 = s.new d 1 [.flat .nilFunc] (.ptr (s.gh.nm d) s.gen 0) := aalloc_of ti78 s d
theorem bx78 (s : ASt) (d : Nat) (x : AVal) : abox Try.prog s d 78 x = (match cellsOf x with | some vs => s.new d 1 vs (.ptr (s.gh.nm d) s.gen 0) | none => none) := abox_of ti78 s d x
theorem ti79 : ti Try.prog 79 = some ⟨1, false, 8, [.flat .nilFunc], .none⟩ := (ti_eq _ _).trans (by kernel_rfl)
theorem al79 (s : ASt) (d : Nat) : aalloc Try.prog s d 79 = s.new d 1 [.flat .nilFunc] (.ptr (s.gh.nm d) s.gen 0) := aalloc_of ti79 s d
theorem bx79 (s : ASt) (d : Nat) (x : AVal) : abox Try.prog s d 79 x = (match cellsOf x with | some vs => s.new d 1 vs (.ptr (s.gh.nm d) s.gen 0) | none => none) := abox_of ti79 s d x
theorem ti80 : ti Try.prog 80 = some ⟨1, false, 8, [.flat .nilFunc], .none⟩ := (ti_eq _ _).trans (by kernel_rfl)
theorem al80 (s : ASt) (d : Nat) : aalloc Try.prog s d 80 = s.new d 1 [.flat .nilFunc] (.ptr (s.gh.nm d) s.gen 0) := aalloc_of ti80 s d
theorem bx80 (s : ASt) (d : Nat) (x : AVal) : abox Try.prog s d 80 x = (match cellsOf x with | some vs => s.new d 1 vs (.ptr (s.gh.nm d) s.gen 0) | none => none) := abox_of ti80 s d x
theorem ti81 : ti Try.prog 81 = some ⟨1, false, 8, [.flat .nilFunc], .none⟩ := (ti_eq _ _).trans (by kernel_rfl)
theorem al81 (s : ASt) (d : Nat) : aalloc Try.prog s d 81 = s.new d 1 [.flat .nilFunc] (.ptr (s.gh.nm d) s.gen 0) := aalloc_of ti81 s d
theorem bx81 (s : ASt) (d : Nat) (x : AVal) : abox Try.prog s d 81 x = (match cellsOf x with | some vs => s.new d 1 vs (.ptr (s.gh.nm d) s.gen 0) | none => none) := abox_of ti81 s d x
theorem ti82 : ti Try.prog 82 = some ⟨1, false, 8, [.flat .nilFunc], .none⟩ := (ti_eq _ _).trans (by kernel_rfl)
theorem al82 (s : ASt) (d : Nat) : aalloc Try.prog s d 82 = s.new d 1 [.flat .nilFunc] (.ptr (s.gh.nm d) s.gen 0) := aalloc_of ti82 s d
theorem bx82 (s : ASt) (d : Nat) (x : AVal) : abox Try.prog s d 82 x = (match cellsOf x with | some vs => s.new d 1 vs (.ptr (s.gh.nm d) s.gen 0) | none => none) := abox_of ti82 s d x
theorem ti83 : ti Try.prog 83 = some ⟨1, false, 8, [.flat .nilFunc], .none⟩ := (ti_eq _ _).trans (by kernel_rfl)
theorem al83 (s : ASt) (d : Nat) : aalloc Try.prog s d 83 = s.new d 1 [.flat .nilFunc] (.ptr (s.gh.nm d) s.gen 0) := aalloc_of ti83 s d
theorem bx83 (s : ASt) (d : Nat) (x : AVal) : abox Try.prog s d 83 x = (match cellsOf x with | some vs => s.new d 1 vs (.ptr (s.gh.nm d) s.gen 0) | none => none) := abox_of ti83 s d x
theorem ti84 : ti Try.prog 84 = some ⟨1, false, 8, [.flat .nilFunc], .none⟩ := (ti_eq _ _).trans (by kernel_rfl)
theorem al84 (s : ASt) (d : Nat) : aalloc Try.prog s d 84 = s.new d 1 [.flat .nilFunc] (.ptr (s.gh.nm d) s.gen 0) := aalloc_of ti84 s d
theorem bx84 (s : ASt) (d : Nat) (x : AVal) : abox Try.prog s d 84 x = (match cellsOf x with | some vs => s.new d 1 vs (.ptr (s.gh.nm d) s.gen 0) | none => none) := abox_of ti84 s d x
theorem ti85 : ti Try.prog 85 = some ⟨1, false, 8, [.flat .nilFunc], .none⟩ := (ti_eq _ _).trans (by kernel_rfl)
theorem al85 (s : ASt) (d : Nat) : aalloc Try.prog s d 85 = s.new d 1 [.flat .nilFunc] (.ptr (s.gh.nm d) s.gen 0) := aalloc_of ti85 s d
theorem bx85 (s : ASt) (d : Nat) (x : AVal) : abox Try.prog s d 85 x = (match cellsOf x with | some vs => s.new d 1 vs (.ptr (s.gh.nm d) s.gen 0) | none => none) := abox_of ti85 s d x
theorem ti86 : ti Try.prog 86 = some ⟨1, false, 8, [.flat .nilFunc], .none⟩ := (ti_eq _ _).trans (by kernel_rfl)
theorem al86 (s : ASt) (d : Nat) : aalloc Try.prog s d 86 = s.new d 1 [.flat .nilFunc] (.ptr (s.gh.nm d) s.gen 0) := aalloc_of ti86 s d
theorem bx86 (s : ASt) (d : Nat) (x : AVal) : abox Try.prog s d 86 x = (match cellsOf x with | some vs => s.new d 1 vs (.ptr (s.gh.nm d) s.gen 0) | none => none) := abox_of ti86 s d x
theorem ti87 : ti Try.prog 87 = some ⟨1, false, 8, [.flat .nilFunc], .none⟩ := (ti_eq _ _).trans (by kernel_rfl)
theorem al87 (s : ASt) (d : Nat) : aalloc Try.prog s d 87 = s.new d 1 [.flat .nilFunc] (.ptr (s.gh.nm d) s.gen 0) := aalloc_of ti87 s d
theorem bx87 (s : ASt) (d : Nat) (x : AVal) : abox Try.prog s d 87 x = (match cellsOf x with | some vs => s.new d 1 vs (.ptr (s.gh.nm d) s.gen 0) | none => none) := abox_of ti87 s d x
theorem ti88 : ti Try.prog 88 = some ⟨1, false, 8, [.flat .nilFunc], .none⟩ := (ti_eq _ _).trans (by kernel_rfl)
theorem al88 (s : ASt) (d : Nat) : aalloc Try.prog s d 88 = s.new d 1 [.flat .nilFunc] (.ptr (s.gh.nm d) s.gen 0) := aalloc_of ti88 s d
theorem bx88 (s : ASt) (d : Nat) (x : AVal) : abox Try.prog s d 88 x = (match cellsOf x with | some vs => s.new d 1 vs (.ptr (s.gh.nm d) s.gen 0) | none => none) := abox_of ti88 s d x
theorem ti89 : ti Try.prog 89 = some ⟨1, false, 8, [.flat .nilFunc], .none⟩ := (ti_eq _ _).trans (by kernel_rfl)
theorem al89 (s : ASt) (d : Nat) : aalloc Try.prog s d 89 = s.new d 1 [.flat .nilFunc] (.ptr (s.gh.nm d) s.gen 0) := aalloc_of ti89 s d
theorem bx89 (s : ASt) (d : Nat) (x : AVal) : abox Try.prog s d 89 x = (match cellsOf x with | some vs => s.new d 1 vs (.ptr (s.gh.nm d) s.gen 0) | none => none) := abox_of ti89 s d x
theorem ti90 : ti Try.prog 90 = some ⟨1, false, 8, [.flat .nilFunc], .none⟩ := (ti_eq _ _).trans (by kernel_rfl)
theorem al90 (s : ASt) (d : Nat) : aalloc Try.prog s d 90 = s.new d 1 [.flat .nilFunc] (.ptr (s.gh.nm d) s.gen 0) := aalloc_of ti90 s d
theorem bx90 (s : ASt) (d : Nat) (x : AVal) : abox Try.prog s d 90 x = (match cellsOf x with | some vs => s.new d 1 vs (.ptr (s.gh.nm d) s.gen 0) | none => none) := abox_of ti90 s d x
theorem ti91 : ti Try.prog 91 = some ⟨1, false, 8, [.flat .nilFunc], .none⟩ := (ti_eq _ _).trans (by kernel_rfl)
theorem al91 (s : ASt) (d : Nat) : aalloc Try.prog s d 91 = s.new d 1 [.flat .nilFunc] (.ptr (s.gh.nm d) s.gen 0) := aalloc_of ti91 s d
theorem bx91 (s : ASt) (d : Nat) (x : AVal) : abox Try.prog s d 91 x = (match cellsOf x with | some vs => s.new d 1 vs (.ptr (s.gh.nm d) s.gen 0) | none => none) := abox_of ti91 s d x
theorem ti92 : ti Try.prog 92 = some ⟨1, false, 8, [.flat .nilFunc], .none⟩ := (ti_eq _ _).trans (by kernel_rfl)
theorem al92 (s : ASt) (d : Nat) : aalloc Try.prog s d 92 = s.new d 1 [.flat .nilFunc] (.ptr (s.gh.nm d) s.gen 0) := aalloc_of ti92 s d
theorem bx92 (s : ASt) (d : Nat) (x : AVal) : abox Try.prog s d 92 x = (match cellsOf x with | some vs => s.new d 1 vs (.ptr (s.gh.nm d) s.gen 0) | none => none) := abox_of ti92 s d x
theorem ti93 : ti Try.prog 93 = some ⟨1, false, 8, [.flat .nilFunc], .none⟩ := (ti_eq _ _).trans (by kernel_rfl)
theorem al93 (s : ASt) (d : Nat) : aalloc Try.prog s d 93 = s.new d 1 [.flat .nilFunc] (.ptr (s.gh.nm d) s.gen 0) := aalloc_of ti93 s d
theorem bx93 (s : ASt) (d : Nat) (x : AVal) : abox Try.prog s d 93 x = (match cellsOf x with | some vs => s.new d 1 vs (.ptr (s.gh.nm d) s.gen 0) | none => none) := abox_of ti93 s d x
theorem ti94 : ti Try.prog 94 = some ⟨1, false, 8, [.flat .nilFunc], .none⟩ := (ti_eq _ _).trans (by kernel_rfl)
theorem al94 (s : ASt) (d : Nat) : aalloc Try.prog s d 94 = s.new d 1 [.flat .nilFunc] (.ptr (s.gh.nm d) s.gen 0) := aalloc_of ti94 s d
theorem bx94 (s : ASt) (d : Nat) (x : AVal) : abox Try.prog s d 94 x = (match cellsOf x with | some vs => s.new d 1 vs (.ptr (s.gh.nm d) s.gen 0) | none => none) := abox_of ti94 s d x
theorem ti95 : ti Try.prog 95 = some ⟨1, false, 8, [.flat .nilFunc], .none⟩ := (ti_eq _ _).trans (by kernel_rfl)
theorem al95 (s : ASt) (d : Nat) : aalloc Try.prog s d 95 = s.new d 1 [.flat .nilFunc] (.ptr (s.gh.nm d) s.gen 0) := aalloc_of ti95 s d
theorem bx95 (s : ASt) (d : Nat) (x : AVal) : abox Try.prog s d 95 x = (match cellsOf x with | some vs => s.new d 1 vs (.ptr (s.gh.nm d) s.gen 0) | none => none) := abox_of ti95 s d x
theorem ti96 : ti Try.prog 96 = some ⟨1, false, 8, [.flat .nilFunc], .none⟩ := (ti_eq _ _).trans (by kernel_rfl)
theorem al96 (s : ASt) (d : Nat) : aalloc Try.prog s d 96 = s.new d 1 [.flat .nilFunc] (.ptr (s.gh.nm d) s.gen 0) := aalloc_of ti96 s d
theorem bx96 (s : ASt) (d : Nat) (x : AVal) : abox Try.prog s d 96 x = (match cellsOf x with | some vs => s.new d 1 vs (.ptr (s.gh.nm d) s.gen 0) | none => none) := abox_of ti96 s d x
theorem ti97 : ti Try.prog 97 = some ⟨1, false, 8, [.flat .nilFunc], .none⟩ := (ti_eq _ _).trans (by kernel_rfl)
theorem al97 (s : ASt) (d : Nat) : aalloc Try.prog s d 97 = s.new d 1 [.flat .nilFunc] (.ptr (s.gh.nm d) s.gen 0) := aalloc_of ti97 s d
theorem bx97 (s : ASt) (d : Nat) (x : AVal) : abox Try.prog s d 97 x = (match cellsOf x with | some vs => s.new d 1 vs (.ptr (s.gh.nm d) s.gen 0) | none => none) := abox_of ti97 s d x
theorem ti98 : ti Try.prog 98 = some ⟨1, false, 8, [.flat .nilFunc], .none⟩ := (ti_eq _ _).trans (by kernel_rfl)
theorem al98 (s : ASt) (d : Nat) : aalloc Try.prog s d 98 = s.new d 1 [.flat .nilFunc] (.ptr (s.gh.nm d) s.gen 0) := aalloc_of ti98 s d
theorem bx98 (s : ASt) (d : Nat) (x : AVal) : abox Try.prog s d 98 x = (match cellsOf x with | some vs => s.new d 1 vs (.ptr (s.gh.nm d) s.gen 0) | none => none) := abox_of ti98 s d x
theorem ti99 : ti Try.prog 99 = some ⟨1, false, 8, [.flat .nilFunc], .none⟩ := (ti_eq _ _).trans (by kernel_rfl)
theorem al99 (s : ASt) (d : Nat) : aalloc Try.prog s d 99 = s.new d 1 [.flat .nilFunc] (.ptr (s.gh.nm d) s.gen 0) := aalloc_of ti99 s d
theorem bx99 (s : ASt) (d : Nat) (x : AVal) : abox Try.prog s d 99 x = (match cellsOf x with | some vs => s.new d 1 vs (.ptr (s.gh.nm d) s.gen 0) | none => none) := abox_of ti99 s d x
theorem ti100 : ti Try.prog 100 = some ⟨1, false, 8, [.flat .nilFunc], .none⟩ := (ti_eq _ _).trans (by kernel_rfl)
theorem al100 (s : ASt) (d : Nat) : aalloc Try.prog s d 100 = s.new d 1 [.flat .nilFunc] (.ptr (s.gh.nm d) s.gen 0) := aalloc_of ti100 s d
theorem bx100 (s : ASt) (d : Nat) (x : AVal) : abox Try.prog s d 100 x = (match cellsOf x with | some vs => s.new d 1 vs (.ptr (s.gh.nm d) s.gen 0) | none => none) := abox_of ti100 s d x
theorem ti101 : ti Try.prog 101 = some ⟨1, false, 8, [.flat .nilFunc], .none⟩ := (ti_eq _ _).trans (by kernel_rfl)
theorem al101 (s : ASt) (d : Nat) : aalloc Try.prog s d 101 = s.new d 1 [.flat .nilFunc] (.ptr (s.gh.nm d) s.gen 0) := aalloc_of ti101 s d
theorem bx101 (s : ASt) (d : Nat) (x : AVal) : abox Try.prog s d 101 x = (match cellsOf x with | some vs => s.new d 1 vs (.ptr (s.gh.nm d) s.gen 0) | none => none) := abox_of ti101 s d x
theorem ti102 : ti Try.prog 102 = some ⟨1, false, 8, [.flat .nilFunc], .none⟩ := (ti_eq _ _).trans (by kernel_rfl)
theorem al102 (s : ASt) (d : Nat) : aalloc Try.prog s d 102 = s.new d 1 [.flat .nilFunc] (.ptr (s.gh.nm d) s.gen 0) := aalloc_of ti102 s d
theorem bx102 (s : ASt) (d : Nat) (x : AVal) : abox Try.prog s d 102 x = (match cellsOf x with | some vs => s.new d 1 vs (.ptr (s.gh.nm d) s.gen 0) | none => none) := abox_of ti102 s d x
theorem ti103 : ti Try.prog 103 = some ⟨1, false, 8, [.flat .nilFunc], .none⟩ := (ti_eq _ _).trans (by kernel_rfl)
theorem al103 (s : ASt) (d : Nat) : aalloc Try.prog s d 103 = s.new d 1 [.flat .nilFunc] (.ptr (s.gh.nm d) s.gen 0) := aalloc_of ti103 s d
theorem bx103 (s : ASt) (d : Nat) (x : AVal) : abox Try.prog s d 103 x = (match cellsOf x with | some vs => s.new d 1 vs (.ptr (s.gh.nm d) s.gen 0) | none => none) := abox_of ti103 s d x
theorem ti104 : ti Try.prog 104 = some ⟨1, false, 8, [.flat (.int .u64 0)], .none⟩ := (ti_eq _ _).trans (by kernel_rfl)
theorem al104 (s : ASt) (d : Nat) : aalloc Try.prog s d 104 = s.new d 1 [.flat (.int .u64 0)] (.ptr (s.gh.nm d) s.gen 0) := aalloc_of ti104 s d
theorem bx104 (s : ASt) (d : Nat) (x : AVal) : abox Try.prog s d 104 x = (match cellsOf x with | some vs => s.new d 1 vs (.ptr (s.gh.nm d) s.gen 0) | none => none) := abox_of ti104 s d x
theorem ti105 : ti Try.prog 105 = some ⟨3, true, 40, [.nl, .flat (.int .i64 0), .flat (.int .u64 0)], .struct [(0, 22), (1, 3), (2, 104)]⟩ := (ti_eq _ _).trans (by kernel_rfl)
theorem al105 (s : ASt) (d : Nat) : aalloc Try.prog s d 105 = s.new d 3 [.nl, .flat (.int .i64 0), .flat (.int .u64 0)] (.ptr (s.gh.nm d) s.gen 0) := aalloc_of ti105 s d
theorem bx105 (s : ASt) (d : Nat) (x : AVal) : abox Try.prog s d 105 x = (match cellsOf x with | some vs => s.new d 3 vs (.ptr (s.gh.nm d) s.gen 0) | none => none) := abox_of ti105 s d x
theorem ti106 : ti Try.prog 106 = some ⟨3, true, 40, [.nl, .flat (.int .i64 0), .flat (.int .u64 0)], .struct [(0, 22), (1, 3), (2, 104)]⟩ := (ti_eq _ _).trans (by kernel_rfl)
theorem al106 (s : ASt) (d : Nat) : aalloc Try.prog s d 106 = s.new d 3 [.nl, .flat (.int .i64 0), .flat (.int .u64 0)] (.ptr (s.gh.nm d) s.gen 0) := aalloc_of ti106 s d
theorem bx106 (s : ASt) (d : Nat) (x : AVal) : abox Try.prog s d 106 x = (match cellsOf x with | some vs => s.new d 3 vs (.ptr (s.gh.nm d) s.gen 0) | none => none) := abox_of ti106 s d x
theorem ti107 : ti Try.prog 107 = some ⟨1, false, 8, [.flat .nilFunc], .none⟩ := (ti_eq _ _).trans (by kernel_rfl)
theorem al107 (s : ASt) (d : Nat) : aalloc Try.prog s d 107 = s.new d 1 [.flat .nilFunc] (.ptr (s.gh.nm d) s.gen 0) := aalloc_of ti107 s d
theorem bx107 (s : ASt) (d : Nat) (x : AVal) : abox Try.prog s d 107 x = (match cellsOf x with | some vs => s.new d 1 vs (.ptr (s.gh.nm d) s.gen 0) | none => none) := abox_of ti107 s d x
theorem ti108 : ti Try.prog 108 = some ⟨1, false, 8, [.flat .nilFunc], .none⟩ := (ti_eq _ _).trans (by kernel_rfl)
theorem al108 (s : ASt) (d : Nat) : aalloc Try.prog s d 108 = s.new d 1 [.flat .nilFunc] (.ptr (s.gh.nm d) s.gen 0) := aalloc_of ti108 s d
theorem bx108 (s : ASt) (d : Nat) (x : AVal) : abox Try.prog s d 108 x = (match cellsOf x with | some vs => s.new d 1 vs (.ptr (s.gh.nm d) s.gen 0) | none => none) := abox_of ti108 s d x
theorem ti109 : ti Try.prog 109 = some ⟨1, false, 8, [.flat (.pointer none)], .none⟩ := (ti_eq _ _).trans (by kernel_rfl)
theorem al109 (s : ASt) (d : Nat) : aalloc Try.prog s d 109 = s.new d 1 [.flat (.pointer none)] (.ptr (s.gh.nm d) s.gen 0) := aalloc_of ti109 s d
theorem bx109 (s : ASt) (d : Nat) (x : AVal) : abox Try.prog s d 109 x = (match cellsOf x with | some vs => s.new d 1 vs (.ptr (s.gh.nm d) s.gen 0) | none => none) := abox_of ti109 s d x
theorem ti110 : ti Try.prog 110 = some ⟨1, false, 8, [.flat .nilFunc], .none⟩ := (ti_eq _ _).trans (by kernel_rfl)
theorem al110 (s : ASt) (d : Nat) : aalloc Try.prog s d 110 = s.new d 1 [.flat .nilFunc] (.ptr (s.gh.nm d) s.gen 0) := aalloc_of ti110 s d
theorem bx110 (s : ASt) (d : Nat) (x : AVal) : abox Try.prog s d 110 x = (match cellsOf x with | some vs => s.new d 1 vs (.ptr (s.gh.nm d) s.gen 0) | none => none) := abox_of ti110 s d x
theorem ti111 : ti Try.prog 111 = some ⟨1, false, 8, [.flat .nilFunc], .none⟩ := (ti_eq _ _).trans (by kernel_rfl)
theorem al111 (s : ASt) (d : Nat) : aalloc Try.prog s d 111 = s.new d 1 [.flat .nilFunc] (.ptr (s.gh.nm d) s.gen 0) := aalloc_of ti111 s d
theorem bx111 (s : ASt) (d : Nat) (x : AVal) : abox Try.prog s d 111 x = (match cellsOf x with | some vs => s.new d 1 vs (.ptr (s.gh.nm d) s.gen 0) | none => none) := abox_of ti111 s d x
theorem ti112 : ti Try.prog 112 = some ⟨1, false, 8, [.flat .nilFunc], .none⟩ := (ti_eq _ _).trans (by kernel_rfl)
theorem al112 (s : ASt) (d : Nat) : aalloc Try.prog s d 112 = s.new d 1 [.flat .nilFunc] (.ptr (s.gh.nm d) s.gen 0) := aalloc_of ti112 s d
theorem bx112 (s : ASt) (d : Nat) (x : AVal) : abox Try.prog s d 112 x = (match cellsOf x with | some vs => s.new d 1 vs (.ptr (s.gh.nm d) s.gen 0) | none => none) := abox_of ti112 s d x
theorem ti113 : ti Try.prog 113 = some ⟨1, false, 8, [.flat .nilFunc], .none⟩ := (ti_eq _ _).trans (by kernel_rfl)
theorem al113 (s : ASt) (d : Nat) : aalloc Try.prog s d 113 = s.new d 1 [.flat .nilFunc] (.ptr (s.gh.nm d) s.gen 0) := aalloc_of ti113 s d
theorem bx113 (s : ASt) (d : Nat) (x : AVal) : abox Try.prog s d 113 x = (match cellsOf x with | some vs => s.new d 1 vs (.ptr (s.gh.nm d) s.gen 0) | none => none) := abox_of ti113 s d x
theorem ti114 : ti Try.prog 114 = some ⟨1, false, 8, [.flat (.int .u64 0)], .none⟩ := (ti_eq _ _).trans (by kernel_rfl)
theorem al114 (s : ASt) (d : Nat) : aalloc Try.prog s d 114 = s.new d 1 [.flat (.int .u64 0)] (.ptr (s.gh.nm d) s.gen 0) := aalloc_of ti114 s d
theorem bx114 (s : ASt) (d : Nat) (x : AVal) : abox Try.prog s d 114 x = (match cellsOf x with | some vs => s.new d 1 vs (.ptr (s.gh.nm d) s.gen 0) | none => none) := abox_of ti114 s d x
theorem ti115 : ti Try.prog 115 = some ⟨1, false, 8, [.flat (.pointer none)], .none⟩ := (ti_eq _ _).trans (by kernel_rfl)
theorem al115 (s : ASt) (d : Nat) : aalloc Try.prog s d 115 = s.new d 1 [.flat (.pointer none)] (.ptr (s.gh.nm d) s.gen 0) := aalloc_of ti115 s d
theorem bx115 (s : ASt) (d : Nat) (x : AVal) : abox Try.prog s d 115 x = (match cellsOf x with | some vs => s.new d 1 vs (.ptr (s.gh.nm d) s.gen 0) | none => none) := abox_of ti115 s d x
theorem ti116 : ti Try.prog 116 = some ⟨1, false, 8, [.flat .nilFunc], .none⟩ := (ti_eq _ _).trans (by kernel_rfl)
theorem al116 (s : ASt) (d : Nat) : aalloc Try.prog s d 116 = s.new d 1 [.flat .nilFunc] (.ptr (s.gh.nm d) s.gen 0) := aalloc_of ti116 s d
theorem bx116 (s : ASt) (d : Nat) (x : AVal) : abox Try.prog s d 116 x = (match cellsOf x with | some vs => s.new d 1 vs (.ptr (s.gh.nm d) s.gen 0) | none => none) := abox_of ti116 s d x
theorem ti117 : ti Try.prog 117 = some ⟨1, false, 8, [.flat .nilFunc], .none⟩ := (ti_eq _ _).trans (by kernel_rfl)
theorem al117 (s : ASt) (d : Nat) : aalloc Try.prog s d 117 = s.new d 1 [.flat .nilFunc] (.ptr (s.gh.nm d) s.gen 0) := aalloc_of ti117 s d
theorem bx117 (s : ASt) (d : Nat) (x : AVal) : abox Try.prog s d 117 x = (match cellsOf x with | some vs => s.new d 1 vs (.ptr (s.gh.nm d) s.gen 0) | none => none) := abox_of ti117 s d x
theorem ti118 : ti Try.prog 118 = some ⟨1, false, 8, [.flat .nilFunc], .none⟩ := (ti_eq _ _).trans (by kernel_rfl)
theorem al118 (s : ASt) (d : Nat) : aalloc Try.prog s d 118 = s.new d 1 [.flat .nilFunc] (.ptr (s.gh.nm d) s.gen 0) := aalloc_of ti118 s d
theorem bx118 (s : ASt) (d : Nat) (x : AVal) : abox Try.prog s d 118 x = (match cellsOf x with | some vs => s.new d 1 vs (.ptr (s.gh.nm d) s.gen 0) | none => none) := abox_of ti118 s d x
theorem ti119 : ti Try.prog 119 = some ⟨1, false, 24, [.nl], .slice 3⟩ := (ti_eq _ _).trans (by kernel_rfl)
theorem al119 (s : ASt) (d : Nat) : aalloc Try.prog s d 119 = s.new d 1 [.nl] (.ptr (s.gh.nm d) s.gen 0) := aalloc_of ti119 s d
theorem bx119 (s : ASt) (d : Nat) (x : AVal) : abox Try.prog s d 119 x = (match cellsOf x with | some vs => s.new d 1 vs (.ptr (s.gh.nm d) s.gen 0) | none => none) := abox_of ti119 s d x
theorem ti120 : ti Try.prog 120 = some ⟨1, false, 8, [.flat .nilFunc], .none⟩ := (ti_eq _ _).trans (by kernel_rfl)
theorem al120 (s : ASt) (d : Nat) : aalloc Try.prog s d 120 = s.new d 1 [.flat .nilFunc] (.ptr (s.gh.nm d) s.gen 0) := aalloc_of ti120 s d
theorem bx120 (s : ASt) (d : Nat) (x : AVal) : abox Try.prog s d 120 x = (match cellsOf x with | some vs => s.new d 1 vs (.ptr (s.gh.nm d) s.gen 0) | none => none) := abox_of ti120 s d x
theorem ti121 : ti Try.prog 121 = some ⟨1, false, 8, [.flat .nilFunc], .none⟩ := (ti_eq _ _).trans (by kernel_rfl)
theorem al121 (s : ASt) (d : Nat) : aalloc Try.prog s d 121 = s.new d 1 [.flat .nilFunc] (.ptr (s.gh.nm d) s.gen 0) := aalloc_of ti121 s d
theorem bx121 (s : ASt) (d : Nat) (x : AVal) : abox Try.prog s d 121 x = (match cellsOf x with | some vs => s.new d 1 vs (.ptr (s.gh.nm d) s.gen 0) | none => none) := abox_of ti121 s d x
theorem ti123 : ti Try.prog 123 = some ⟨1, false, 8, [.flat .nilFunc], .none⟩ := (ti_eq _ _).trans (by kernel_rfl)
theorem al123 (s : ASt) (d : Nat) : aalloc Try.prog s d 123 = s.new d 1 [.flat .nilFunc] (.ptr (s.gh.nm d) s.gen 0) := aalloc_of ti123 s d
theorem bx123 (s : ASt) (d : Nat) (x : AVal) : abox Try.prog s d 123 x = (match cellsOf x with | some vs => s.new d 1 vs (.ptr (s.gh.nm d) s.gen 0) | none => none) := abox_of ti123 s d x
theorem ti124 : ti Try.prog 124 = some ⟨1, false, 8, [.flat (.pointer none)], .none⟩ := (ti_eq _ _).trans (by kernel_rfl)
theorem al124 (s : ASt) (d : Nat) : aalloc Try.prog s d 124 = s.new d 1 [.flat (.pointer none)] (.ptr (s.gh.nm d) s.gen 0) := aalloc_of ti124 s d
theorem bx124 (s : ASt) (d : Nat) (x : AVal) : abox Try.prog s d 124 x = (match cellsOf x with | some vs => s.new d 1 vs (.ptr (s.gh.nm d) s.gen 0) | none => none) := abox_of ti124 s d x
theorem ti125 : ti Try.prog 125 = some ⟨7, true, 104, [.flat (.pointer none), .nl, .nl, .nl, .flat (.int .i64 0), .flat (.int .i64 0), .flat (.bool false)], .struct [(0, 62), (1, 29), (2, 29), (3, 29), (4, 2), (5, 2), (6, 4)]⟩ := (ti_eq _ _).trans (by kernel_rfl)
theorem al125 (s : ASt) (d : Nat) : aalloc Try.prog s d 125 = s.new d 7 [.flat (.pointer none), .nl, .nl, .nl, .flat (.int .i64 0), .flat (.int .i64 0), .flat (.bool false)] (.ptr (s.gh.nm d) s.gen 0) := aalloc_of ti125 s d
theorem bx125 (s : ASt) (d : Nat) (x : AVal) : abox Try.prog s d 125 x = (match cellsOf x with | some vs => s.new d 7 vs (.ptr (s.gh.nm d) s.gen 0) | none => none) := abox_of ti125 s d x
theorem ti126 : ti Try.prog 126 = some ⟨7, true, 104, [.flat (.pointer none), .nl, .nl, .nl, .flat (.int .i64 0), .flat (.int .i64 0), .flat (.bool false)], .struct [(0, 62), (1, 29), (2, 29), (3, 29), (4, 2), (5, 2), (6, 4)]⟩ := (ti_eq _ _).trans (by kernel_rfl)
theorem al126 (s : ASt) (d : Nat) : aalloc Try.prog s d 126 = s.new d 7 [.flat (.pointer none), .nl, .nl, .nl, .flat (.int .i64 0), .flat (.int .i64 0), .flat (.bool false)] (.ptr (s.gh.nm d) s.gen 0) := aalloc_of ti126 s d
theorem bx126 (s : ASt) (d : Nat) (x : AVal) : abox Try.prog s d 126 x = (match cellsOf x with | some vs => s.new d 7 vs (.ptr (s.gh.nm d) s.gen 0) | none => none) := abox_of ti126 s d x
theorem ti127 : ti Try.prog 127 = some ⟨1, false, 8, [.flat .nilFunc], .none⟩ := (ti_eq _ _).trans (by kernel_rfl)
theorem al127 (s : ASt) (d : Nat) : aalloc Try.prog s d 127 = s.new d 1 [.flat .nilFunc] (.ptr (s.gh.nm d) s.gen 0) := aalloc_of ti127 s d
theorem bx127 (s : ASt) (d : Nat) (x : AVal) : abox Try.prog s d 127 x = (match cellsOf x with | some vs => s.new d 1 vs (.ptr (s.gh.nm d) s.gen 0) | none => none) := abox_of ti127 s d x
theorem ti128 : ti Try.prog 128 = some ⟨1, false, 8, [.flat .nilFunc], .none⟩ := (ti_eq _ _).trans (by kernel_rfl)
theorem al128 (s : ASt) (d : Nat) : aalloc Try.prog s d 128 = s.new d 1 [.flat .nilFunc] (.ptr (s.gh.nm d) s.gen 0) := aalloc_of ti128 s d
theorem bx128 (s : ASt) (d : Nat) (x : AVal) : abox Try.prog s d 128 x = (match cellsOf x with | some vs => s.new d 1 vs (.ptr (s.gh.nm d) s.gen 0) | none => none) := abox_of ti128 s d x
theorem ti129 : ti Try.prog 129 = some ⟨1, false, 8, [.flat .nilFunc], .none⟩ := (ti_eq _ _).trans (by kernel_rfl)
theorem al129 (s : ASt) (d : Nat) : aalloc Try.prog s d 129 = s.new d 1 [.flat .nilFunc] (.ptr (s.gh.nm d) s.gen 0) := aalloc_of ti129 s d
theorem bx129 (s : ASt) (d : Nat) (x : AVal) : abox Try.prog s d 129 x = (match cellsOf x with | some vs => s.new d 1 vs (.ptr (s.gh.nm d) s.gen 0) | none => none) := abox_of ti129 s d x
theorem ti130 : ti Try.prog 130 = some ⟨1, false, 8, [.flat (.int .i64 0)], .none⟩ := (ti_eq _ _).trans (by kernel_rfl)
theorem al130 (s : ASt) (d : Nat) : aalloc Try.prog s d 130 = s.new d 1 [.flat (.int .i64 0)] (.ptr (s.gh.nm d) s.gen 0) := aalloc_of ti130 s d
theorem bx130 (s : ASt) (d : Nat) (x : AVal) : abox Try.prog s d 130 x = (match cellsOf x with | some vs => s.new d 1 vs (.ptr (s.gh.nm d) s.gen 0) | none => none) := abox_of ti130 s d x
theorem ti132 : ti Try.prog 132 = some ⟨1, false, 8, [.flat .nilFunc], .none⟩ := (ti_eq _ _).trans (by kernel_rfl)
theorem al132 (s : ASt) (d : Nat) : aalloc Try.prog s d 132 = s.new d 1 [.flat .nilFunc] (.ptr (s.gh.nm d) s.gen 0) := aalloc_of ti132 s d
theorem bx132 (s : ASt) (d : Nat) (x : AVal) : abox Try.prog s d 132 x = (match cellsOf x with | some vs => s.new d 1 vs (.ptr (s.gh.nm d) s.gen 0) | none => none) := abox_of ti132 s d x
theorem ti133 : ti Try.prog 133 = some ⟨1, false, 8, [.flat .nilFunc], .none⟩ := (ti_eq _ _).trans (by kernel_rfl)
theorem al133 (s : ASt) (d : Nat) : aalloc Try.prog s d 133 = s.new d 1 [.flat .nilFunc] (.ptr (s.gh.nm d) s.gen 0) := aalloc_of ti133 s d
theorem bx133 (s : ASt) (d : Nat) (x : AVal) : abox Try.prog s d 133 x = (match cellsOf x with | some vs => s.new d 1 vs (.ptr (s.gh.nm d) s.gen 0) | none => none) := abox_of ti133 s d x
theorem ti134 : ti Try.prog 134 = some ⟨1, false, 8, [.flat .nilFunc], .none⟩ := (ti_eq _ _).trans (by kernel_rfl)
theorem al134 (s : ASt) (d : Nat) : aalloc Try.prog s d 134 = s.new d 1 [.flat .nilFunc] (.ptr (s.gh.nm d) s.gen 0) := aalloc_of ti134 s d
theorem bx134 (s : ASt) (d : Nat) (x : AVal) : abox Try.prog s d 134 x = (match cellsOf x with | some vs => s.new d 1 vs (.ptr (s.gh.nm d) s.gen 0) | none => none) := abox_of ti134 s d x
theorem ti135 : ti Try.prog 135 = some ⟨1, false, 8, [.flat .nilFunc], .none⟩ := (ti_eq _ _).trans (by kernel_rfl)
theorem al135 (s : ASt) (d : Nat) : aalloc Try.prog s d 135 = s.new d 1 [.flat .nilFunc] (.ptr (s.gh.nm d) s.gen 0) := aalloc_of ti135 s d
theorem bx135 (s : ASt) (d : Nat) (x : AVal) : abox Try.prog s d 135 x = (match cellsOf x with | some vs => s.new d 1 vs (.ptr (s.gh.nm d) s.gen 0) | none => none) := abox_of ti135 s d x
theorem ti137 : ti Try.prog 137 = some ⟨1, false, 8, [.flat .nilFunc], .none⟩ := (ti_eq _ _).trans (by kernel_rfl)
theorem al137 (s : ASt) (d : Nat) : aalloc Try.prog s d 137 = s.new d 1 [.flat .nilFunc] (.ptr (s.gh.nm d) s.gen 0) := aalloc_of ti137 s d
theorem bx137 (s : ASt) (d : Nat) (x : AVal) : abox Try.prog s d 137 x = (match cellsOf x with | some vs => s.new d 1 vs (.ptr (s.gh.nm d) s.gen 0) | none => none) := abox_of ti137 s d x
theorem ti138 : ti Try.prog 138 = some ⟨1, false, 8, [.flat .nilFunc], .none⟩ := (ti_eq _ _).trans (by kernel_rfl)
theorem al138 (s : ASt) (d : Nat) : aalloc Try.prog s d 138 = s.new d 1 [.flat .nilFunc] (.ptr (s.gh.nm d) s.gen 0) := aalloc_of ti138 s d
theorem bx138 (s : ASt) (d : Nat) (x : AVal) : abox Try.prog s d 138 x = (match cellsOf x with | some vs => s.new d 1 vs (.ptr (s.gh.nm d) s.gen 0) | none => none) := abox_of ti138 s d x
theorem ti139 : ti Try.prog 139 = some ⟨1, false, 4, [.flat (.int .u32 0)], .none⟩ := (ti_eq _ _).trans (by kernel_rfl)
theorem al139 (s : ASt) (d : Nat) : aalloc Try.prog s d 139 = s.new d 1 [.flat (.int .u32 0)] (.ptr (s.gh.nm d) s.gen 0) := aalloc_of ti139 s d
theorem bx139 (s : ASt) (d : Nat) (x : AVal) : abox Try.prog s d 139 x = (match cellsOf x with | some vs => s.new d 1 vs (.ptr (s.gh.nm d) s.gen 0) | none => none) := abox_of ti139 s d x
theorem ti140 : ti Try.prog 140 = some ⟨1, false, 8, [.flat .nilFunc], .none⟩ := (ti_eq _ _).trans (by kernel_rfl)
theorem al140 (s : ASt) (d : Nat) : aalloc Try.prog s d 140 = s.new d 1 [.flat .nilFunc] (.ptr (s.gh.nm d) s.gen 0) := aalloc_of ti140 s d
theorem bx140 (s : ASt) (d : Nat) (x : AVal) : abox Try.prog s d 140 x = (match cellsOf x with | some vs => s.new d 1 vs (.ptr (s.gh.nm d) s.gen 0) | none => none) := abox_of ti140 s d x
theorem ti141 : ti Try.prog 141 = some ⟨1, false, 8, [.flat .nilFunc], .none⟩ := (ti_eq _ _).trans (by kernel_rfl)
theorem al141 (s : ASt) (d : Nat) : aalloc Try.prog s d 141 = s.new d 1 [.flat .nilFunc] (.ptr (s.gh.nm d) s.gen 0) := aalloc_of ti141 s d
theorem bx141 (s : ASt) (d : Nat) (x : AVal) : abox Try.prog s d 141 x = (match cellsOf x with | some vs => s.new d 1 vs (.ptr (s.gh.nm d) s.gen 0) | none => none) := abox_of ti141 s d x
theorem ti142 : ti Try.prog 142 = some ⟨1, false, 8, [.flat .nilFunc], .none⟩ := (ti_eq _ _).trans (by kernel_rfl)
theorem al142 (s : ASt) (d : Nat) : aalloc Try.prog s d 142 = s.new d 1 [.flat .nilFunc] (.ptr (s.gh.nm d) s.gen 0) := aalloc_of ti142 s d
theorem bx142 (s : ASt) (d : Nat) (x : AVal) : abox Try.prog s d 142 x = (match cellsOf x with | some vs => s.new d 1 vs (.ptr (s.gh.nm d) s.gen 0) | none => none) := abox_of ti142 s d x
theorem ti143 : ti Try.prog 143 = some ⟨1, false, 8, [.flat .nilFunc], .none⟩ := (ti_eq _ _).trans (by kernel_rfl)
theorem al143 (s : ASt) (d : Nat) : aalloc Try.prog s d 143 = s.new d 1 [.flat .nilFunc] (.ptr (s.gh.nm d) s.gen 0) := aalloc_of ti143 s d
theorem bx143 (s : ASt) (d : Nat) (x : AVal) : abox Try.prog s d 143 x = (match cellsOf x with | some vs => s.new d 1 vs (.ptr (s.gh.nm d) s.gen 0) | none => none) := abox_of ti143 s d x
theorem ti145 : ti Try.prog 145 = some ⟨1, false, 8, [.flat .nilFunc], .none⟩ := (ti_eq _ _).trans (by kernel_rfl)
theorem al145 (s : ASt) (d : Nat) : aalloc Try.prog s d 145 = s.new d 1 [.flat .nilFunc] (.ptr (s.gh.nm d) s.gen 0) := aalloc_of ti145 s d
theorem bx145 (s : ASt) (d : Nat) (x : AVal) : abox Try.prog s d 145 x = (match cellsOf x with | some vs => s.new d 1 vs (.ptr (s.gh.nm d) s.gen 0) | none => none) := abox_of ti145 s d x
theorem ti146 : ti Try.prog 146 = some ⟨1, false, 8, [.flat .nilFunc], .none⟩ := (ti_eq _ _).trans (by kernel_rfl)
theorem al146 (s : ASt) (d : Nat) : aalloc Try.prog s d 146 = s.new d 1 [.flat .nilFunc] (.ptr (s.gh.nm d) s.gen 0) := aalloc_of ti146 s d
theorem bx146 (s : ASt) (d : Nat) (x : AVal) : abox Try.prog s d 146 x = (match cellsOf x with | some vs => s.new d 1 vs (.ptr (s.gh.nm d) s.gen 0) | none => none) := abox_of ti146 s d x
theorem ti147 : ti Try.prog 147 = some ⟨1, false, 8, [.flat .nilFunc], .none⟩ := (ti_eq _ _).trans (by kernel_rfl)
theorem al147 (s : ASt) (d : Nat) : aalloc Try.prog s d 147 = s.new d 1 [.flat .nilFunc] (.ptr (s.gh.nm d) s.gen 0) := aalloc_of ti147 s d
theorem bx147 (s : ASt) (d : Nat) (x : AVal) : abox Try.prog s d 147 x = (match cellsOf x with | some vs => s.new d 1 vs (.ptr (s.gh.nm d) s.gen 0) | none => none) := abox_of ti147 s d x
theorem ti148 : ti Try.prog 148 = some ⟨1, false, 8, [.flat (.int .u64 0)], .none⟩ := (ti_eq _ _).trans (by kernel_rfl)
theorem al148 (s : ASt) (d : Nat) : aalloc Try.prog s d 148 = s.new d 1 [.flat (.int .u64 0)] (.ptr (s.gh.nm d) s.gen 0) := aalloc_of ti148 s d
theorem bx148 (s : ASt) (d : Nat) (x : AVal) : abox Try.prog s d 148 x = (match cellsOf x with | some vs => s.new d 1 vs (.ptr (s.gh.nm d) s.gen 0) | none => none) := abox_of ti148 s d x
theorem ti149 : ti Try.prog 149 = some ⟨1, false, 8, [.flat .nilFunc], .none⟩ := (ti_eq _ _).trans (by kernel_rfl)
theorem al149 (s : ASt) (d : Nat) : aalloc Try.prog s d 149 = s.new d 1 [.flat .nilFunc] (.ptr (s.gh.nm d) s.gen 0) := aalloc_of ti149 s d
theorem bx149 (s : ASt) (d : Nat) (x : AVal) : abox Try.prog s d 149 x = (match cellsOf x with | some vs => s.new d 1 vs (.ptr (s.gh.nm d) s.gen 0) | none => none) := abox_of ti149 s d x
theorem ti150 : ti Try.prog 150 = some ⟨1, false, 8, [.flat .nilFunc], .none⟩ := (ti_eq _ _).trans (by kernel_rfl)
theorem al150 (s : ASt) (d : Nat) : aalloc Try.prog s d 150 = s.new d 1 [.flat .nilFunc] (.ptr (s.gh.nm d) s.gen 0) := aalloc_of ti150 s d
theorem bx150 (s : ASt) (d : Nat) (x : AVal) : abox Try.prog s d 150 x = (match cellsOf x with | some vs => s.new d 1 vs (.ptr (s.gh.nm d) s.gen 0) | none => none) := abox_of ti150 s d x
theorem ti151 : ti Try.prog 151 = some ⟨1, false, 8, [.flat .nilFunc], .none⟩ := (ti_eq _ _).trans (by kernel_rfl)
theorem al151 (s : ASt) (d : Nat) : aalloc Try.prog s d 151 = s.new d 1 [.flat .nilFunc] (.ptr (s.gh.nm d) s.gen 0) := aalloc_of ti151 s d
theorem bx151 (s : ASt) (d : Nat) (x : AVal) : abox Try.prog s d 151 x = (match cellsOf x with | some vs => s.new d 1 vs (.ptr (s.gh.nm d) s.gen 0) | none => none) := abox_of ti151 s d x
theorem ti152 : ti Try.prog 152 = some ⟨1, false, 8, [.flat (.pointer none)], .none⟩ := (ti_eq _ _).trans (by kernel_rfl)
theorem al152 (s : ASt) (d : Nat) : aalloc Try.prog s d 152 = s.new d 1 [.flat (.pointer none)] (.ptr (s.gh.nm d) s.gen 0) := aalloc_of ti152 s d
theorem bx152 (s : ASt) (d : Nat) (x : AVal) : abox Try.prog s d 152 x = (match cellsOf x with | some vs => s.new d 1 vs (.ptr (s.gh.nm d) s.gen 0) | none => none) := abox_of ti152 s d x
theorem ti153 : ti Try.prog 153 = some ⟨1, false, 8, [.flat .nilFunc], .none⟩ := (ti_eq _ _).trans (by kernel_rfl)
theorem al153 (s : ASt) (d : Nat) : aalloc Try.prog s d 153 = s.new d 1 [.flat .nilFunc] (.ptr (s.gh.nm d) s.gen 0) := aalloc_of ti153 s d
theorem bx153 (s : ASt) (d : Nat) (x : AVal) : abox Try.prog s d 153 x = (match cellsOf x with | some vs => s.new d 1 vs (.ptr (s.gh.nm d) s.gen 0) | none => none) := abox_of ti153 s d x
theorem ti155 : ti Try.prog 155 = some ⟨1, false, 8, [.flat .nilFunc], .none⟩ := (ti_eq _ _).trans (by kernel_rfl)
theorem al155 (s : ASt) (d : Nat) : aalloc Try.prog s d 155 = s.new d 1 [.flat .nilFunc] (.ptr (s.gh.nm d) s.gen 0) := aalloc_of ti155 s d
theorem bx155 (s : ASt) (d : Nat) (x : AVal) : abox Try.prog s d 155 x = (match cellsOf x with | some vs => s.new d 1 vs (.ptr (s.gh.nm d) s.gen 0) | none => none) := abox_of ti155 s d x
theorem ti157 : ti Try.prog 157 = some ⟨1, false, 8, [.flat .nilFunc], .none⟩ := (ti_eq _ _).trans (by kernel_rfl)
theorem al157 (s : ASt) (d : Nat) : aalloc Try.prog s d 157 = s.new d 1 [.flat .nilFunc] (.ptr (s.gh.nm d) s.gen 0) := aalloc_of ti157 s d
theorem bx157 (s : ASt) (d : Nat) (x : AVal) : abox Try.prog s d 157 x = (match cellsOf x with | some vs => s.new d 1 vs (.ptr (s.gh.nm d) s.gen 0) | none => none) := abox_of ti157 s d x
theorem ti158 : ti Try.prog 158 = some ⟨1, false, 8, [.flat (.pointer none)], .none⟩ := (ti_eq _ _).trans (by kernel_rfl)
theorem al158 (s : ASt) (d : Nat) : aalloc Try.prog s d 158 = s.new d 1 [.flat (.pointer none)] (.ptr (s.gh.nm d) s.gen 0) := aalloc_of ti158 s d
theorem bx158 (s : ASt) (d : Nat) (x : AVal) : abox Try.prog s d 158 x = (match cellsOf x with | some vs => s.new d 1 vs (.ptr (s.gh.nm d) s.gen 0) | none => none) := abox_of ti158 s d x
theorem ti160 : ti Try.prog 160 = some ⟨1, false, 8, [.flat .nilFunc], .none⟩ := (ti_eq _ _).trans (by kernel_rfl)
theorem al160 (s : ASt) (d : Nat) : aalloc Try.prog s d 160 = s.new d 1 [.flat .nilFunc] (.ptr (s.gh.nm d) s.gen 0) := aalloc_of ti160 s d
theorem bx160 (s : ASt) (d : Nat) (x : AVal) : abox Try.prog s d 160 x = (match cellsOf x with | some vs => s.new d 1 vs (.ptr (s.gh.nm d) s.gen 0) | none => none) := abox_of ti160 s d x
theorem ti161 : ti Try.prog 161 = some ⟨1, false, 8, [.flat .nilFunc], .none⟩ := (ti_eq _ _).trans (by kernel_rfl)
theorem al161 (s : ASt) (d : Nat) : aalloc Try.prog s d 161 = s.new d 1 [.flat .nilFunc] (.ptr (s.gh.nm d) s.gen 0) := aalloc_of ti161 s d
theorem bx161 (s : ASt) (d : Nat) (x : AVal) : abox Try.prog s d 161 x = (match cellsOf x with | some vs => s.new d 1 vs (.ptr (s.gh.nm d) s.gen 0) | none => none) := abox_of ti161 s d x
theorem ti164 : ti Try.prog 164 = some ⟨0, true, 0, [], .array 0 16⟩ := (ti_eq _ _).trans (by kernel_rfl)
theorem al164 (s : ASt) (d : Nat) : aalloc Try.prog s d 164 = s.new d 0 [] (.ptr (s.gh.nm d) s.gen 0) := aalloc_of ti164 s d
theorem bx164 (s : ASt) (d : Nat) (x : AVal) : abox Try.prog s d 164 x = (match cellsOf x with | some vs => s.new d 0 vs (.ptr (s.gh.nm d) s.gen 0) | none => none) := abox_of ti164 s d x
theorem ti167 : ti Try.prog 167 = some ⟨1, false, 8, [.flat .nilFunc], .none⟩ := (ti_eq _ _).trans (by kernel_rfl)
theorem al167 (s : ASt) (d : Nat) : aalloc Try.prog s d 167 = s.new d 1 [.flat .nilFunc] (.ptr (s.gh.nm d) s.gen 0) := aalloc_of ti167 s d
theorem bx167 (s : ASt) (d : Nat) (x : AVal) : abox Try.prog s d 167 x = (match cellsOf x with | some vs => s.new d 1 vs (.ptr (s.gh.nm d) s.gen 0) | none => none) := abox_of ti167 s d x
theorem ti170 : ti Try.prog 170 = some ⟨1, false, 8, [.flat .nilFunc], .none⟩ := (ti_eq _ _).trans (by kernel_rfl)
theorem al170 (s : ASt) (d : Nat) : aalloc Try.prog s d 170 = s.new d 1 [.flat .nilFunc] (.ptr (s.gh.nm d) s.gen 0) := aalloc_of ti170 s d
theorem bx170 (s : ASt) (d : Nat) (x : AVal) : abox Try.prog s d 170 x = (match cellsOf x with | some vs => s.new d 1 vs (.ptr (s.gh.nm d) s.gen 0) | none => none) := abox_of ti170 s d x
theorem ti171 : ti Try.prog 171 = some ⟨1, false, 8, [.flat (.pointer none)], .none⟩ := (ti_eq _ _).trans (by kernel_rfl)
theorem al171 (s : ASt) (d : Nat) : aalloc Try.prog s d 171 = s.new d 1 [.flat (.pointer none)] (.ptr (s.gh.nm d) s.gen 0) := aalloc_of ti171 s d
theorem bx171 (s : ASt) (d : Nat) (x : AVal) : abox Try.prog s d 171 x = (match cellsOf x with | some vs => s.new d 1 vs (.ptr (s.gh.nm d) s.gen 0) | none => none) := abox_of ti171 s d x
theorem ti174 : ti Try.prog 174 = some ⟨11, true, 48, [.flat (.int .u64 0), .flat (.int .u64 0), .flat (.int .u32 0), .flat (.int .u8 0), .flat (.int .u8 0), .flat (.int .u8 0), .flat (.int .u8 0), .flat .nilFunc, .flat (.pointer none), .flat (.int .i32 0), .flat (.int .i32 0)], .struct [(0, 12), (1, 12), (2, 139), (3, 168), (4, 5), (5, 5), (6, 169), (7, 170), (8, 171), (9, 172), (10, 173)]⟩ := (ti_eq _ _).trans (by kernel_rfl)
theorem al174 (s : ASt) (d : Nat) : aalloc Try.prog s d 174 = s.new d 11 [.flat (.int .u64 0), .flat (.int .u64 0), .flat (.int .u32 0), .flat (.int .u8 0), .flat (.int .u8 0), .flat (.int .u8 0), .flat (.int .u8 0), .flat .nilFunc, .flat (.pointer none), .flat (.int .i32 0), .flat (.int .i32 0)] (.ptr (s.gh.nm d) s.gen 0) := aalloc_of ti174 s d
theorem bx174 (s : ASt) (d : Nat) (x : AVal) : abox Try.prog s d 174 x = (match cellsOf x with | some vs => s.new d 11 vs (.ptr (s.gh.nm d) s.gen 0) | none => none) := abox_of ti174 s d x
theorem sem_neB (x y : Operand) (p q : Bool) : semS Try.prog (do eqGuard .neq 4 x y (.bool p) (.bool q); binOp .neq 4 (.bool p) (.bool q)) = some (.flat (.bool (!(p == q)))) := sem_neb Try.prog x y p q (by kernel_rfl)
theorem sem_eqB (x y : Operand) (p q : Bool) : semS Try.prog (do eqGuard .eql 4 x y (.bool p) (.bool q); binOp .eql 4 (.bool p) (.bool q)) = some (.flat (.bool (p == q))) := sem_eqb Try.prog x y p q (by kernel_rfl)
theorem tabS : type_of% (And.intro (And.intro (And.intro (And.intro (And.intro (And.intro (And.intro (And.intro @ti1 (And.intro @al1 @bx1)) (And.intro @ti2 (And.intro @al2 @bx2))) (And.intro (And.intro @ti3 (And.intro @al3 @bx3)) (And.intro (And.intro @ti4 @al4) (And.intro @bx4 @ti5)))) (And.intro (And.intro (And.intro @al5 (And.intro @bx5 @ti9)) (And.intro @al9 (And.intro @bx9 @ti12))) (And.intro (And.intro @al12 (And.intro @bx12 @ti21)) (And.intro (And.intro @al21 @bx21) (And.intro @ti22 @al22))))) (And.intro (And.intro (And.intro (And.intro @bx22 (And.intro @ti23 @al23)) (And.intro @bx23 (And.intro @ti24 @al24))) (And.intro (And.intro @bx24 (And.intro @ti25 @al25)) (And.intro (And.intro @bx25 @ti26) (And.intro @al26 @bx26)))) (And.intro (And.intro (And.intro @ti27 (And.intro @al27 @bx27)) (And.intro (And.intro @ti28 @al28) (And.intro @bx28 @ti29))) (And.intro (And.intro @al29 (And.intro @bx29 @ti31)) (And.intro (And.intro @al31 @bx31) (And.intro @ti33 @al33)))))) (And.intro (And.intro (And.intro (And.intro (And.intro @bx33 (And.intro @ti34 @al34)) (And.intro @bx34 (And.intro @ti35 @al35))) (And.intro (And.intro @bx35 (And.intro @ti36 @al36)) (And.intro (And.intro @bx36 @ti37) (And.intro @al37 @bx37)))) (And.intro (And.intro (And.intro @ti38 (And.intro @al38 @bx38)) (And.intro (And.intro @ti39 @al39) (And.intro @bx39 @ti40))) (And.intro (And.intro @al40 (And.intro @bx40 @ti41)) (And.intro (And.intro @al41 @bx41) (And.intro @ti43 @al43))))) (And.intro (And.intro (And.intro (And.intro @bx43 (And.intro @ti44 @al44)) (And.intro @bx44 (And.intro @ti45 @al45))) (And.intro (And.intro @bx45 (And.intro @ti46 @al46)) (And.intro (And.intro @bx46 @ti47) (And.intro @al47 @bx47)))) (And.intro (And.intro (And.intro @ti49 (And.intro @al49 @bx49)) (And.intro (And.intro @ti50 @al50) (And.intro @bx50 @ti51))) (And.intro (And.intro @al51 (And.intro @bx51 @ti52)) (And.intro (And.intro @al52 @bx52) (And.intro @ti53 @al53))))))) (And.intro (And.intro (And.intro (And.intro (And.intro (And.intro @bx53 (And.intro @ti54 @al54)) (And.intro @bx54 (And.intro @ti55 @al55))) (And.intro (And.intro @bx55 (And.intro @ti56 @al56)) (And.intro (And.intro @bx56 @ti57) (And.intro @al57 @bx57)))) (And.intro (And.intro (And.intro @ti58 (And.intro @al58 @bx58)) (And.intro @ti59 (And.intro @al59 @bx59))) (And.intro (And.intro @ti60 (And.intro @al60 @bx60)) (And.intro (And.intro @ti61 @al61) (And.intro @bx61 @ti62))))) (And.intro (And.intro (And.intro (And.intro @al62 (And.intro @bx62 @ti63)) (And.intro @al63 (And.intro @bx63 @ti64))) (And.intro (And.intro @al64 (And.intro @bx64 @ti65)) (And.intro (And.intro @al65 @bx65) (And.intro @ti66 @al66)))) (And.intro (And.intro (And.intro @bx66 (And.intro @ti67 @al67)) (And.intro (And.intro @bx67 @ti68) (And.intro @al68 @bx68))) (And.intro (And.intro @ti69 (And.intro @al69 @bx69)) (And.intro (And.intro @ti70 @al70) (And.intro @bx70 @ti71)))))) (And.intro (And.intro (And.intro (And.intro (And.intro @al71 (And.intro @bx71 @ti72)) (And.intro @al72 (And.intro @bx72 @ti73))) (And.intro (And.intro @al73 (And.intro @bx73 @ti74)) (And.intro (And.intro @al74 @bx74) (And.intro @ti75 @al75)))) (And.intro (And.intro (And.intro @bx75 (And.intro @ti76 @al76)) (And.intro (And.intro @bx76 @ti77) (And.intro @al77 @bx77))) (And.intro (And.intro @ti78 (And.intro @al78 @bx78)) (And.intro (And.intro @ti79 @al79) (And.intro @bx79 @ti80))))) (And.intro (And.intro (And.intro (And.intro @al80 (And.intro @bx80 @ti81)) (And.intro @al81 (And.intro @bx81 @ti82))) (And.intro (And.intro @al82 (And.intro @bx82 @ti83)) (And.intro (And.intro @al83 @bx83) (And.intro @ti84 @al84)))) (And.intro (And.intro (And.intro @bx84 (And.intro @ti85 @al85)) (And.intro (And.intro @bx85 @ti86) (And.intro @al86 @bx86))) (And.intro (And.intro @ti87 (And.intro @al87 @bx87)) (And.intro (And.intro @ti88 @al88) (And.intro @bx88 @ti89)))))))) (And.intro (And.intro (And.intro (And.intro (And.intro (And.intro (And.intro @al89 (And.intro @bx89 @ti90)) (And.intro @al90 (And.intro @bx90 @ti91))) (And.intro (And.intro @al91 (And.intro @bx91 @ti92)) (And.intro (And.intro @al92 @bx92) (And.intro @ti93 @al93)))) (And.intro (And.intro (And.intro @bx93 (And.intro @ti94 @al94)) (And.intro @bx94 (And.intro @ti95 @al95))) (And.intro (And.intro @bx95 (And.intro @ti96 @al96)) (And.intro (And.intro @bx96 @ti97) (And.intro @al97 @bx97))))) (And.intro (And.intro (And.intro (And.intro @ti98 (And.intro @al98 @bx98)) (And.intro @ti99 (And.intro @al99 @bx99))) (And.intro (And.intro @ti100 (And.intro @al100 @bx100)) (And.intro (And.intro @ti101 @al101) (And.intro @bx101 @ti102)))) (And.intro (And.intro (And.intro @al102 (And.intro @bx102 @ti103)) (And.intro (And.intro @al103 @bx103) (And.intro @ti104 @al104))) (And.intro (And.intro @bx104 (And.intro @ti105 @al105)) (And.intro (And.intro @bx105 @ti106) (And.intro @al106 @bx106)))))) (And.intro (And.intro (And.intro (And.intro (And.intro @ti107 (And.intro @al107 @bx107)) (And.intro @ti108 (And.intro @al108 @bx108))) (And.intro (And.intro @ti109 (And.intro @al109 @bx109)) (And.intro (And.intro @ti110 @al110) (And.intro @bx110 @ti111)))) (And.intro (And.intro (And.intro @al111 (And.intro @bx111 @ti112)) (And.intro (And.intro @al112 @bx112) (And.intro @ti113 @al113))) (And.intro (And.intro @bx113 (And.intro @ti114 @al114)) (And.intro (And.intro @bx114 @ti115) (And.intro @al115 @bx115))))) (And.intro (And.intro (And.intro (And.intro @ti116 (And.intro @al116 @bx116)) (And.intro @ti117 (And.intro @al117 @bx117))) (And.intro (And.intro @ti118 (And.intro @al118 @bx118)) (And.intro (And.intro @ti119 @al119) (And.intro @bx119 @ti120)))) (And.intro (And.intro (And.intro @al120 (And.intro @bx120 @ti121)) (And.intro (And.intro @al121 @bx121) (And.intro @ti123 @al123))) (And.intro (And.intro @bx123 (And.intro @ti124 @al124)) (And.intro (And.intro @bx124 @ti125) (And.intro @al125 @bx125))))))) (And.intro (And.intro (And.intro (And.intro (And.intro (And.intro @ti126 (And.intro @al126 @bx126)) (And.intro @ti127 (And.intro @al127 @bx127))) (And.intro (And.intro @ti128 (And.intro @al128 @bx128)) (And.intro (And.intro @ti129 @al129) (And.intro @bx129 @ti130)))) (And.intro (And.intro (And.intro @al130 (And.intro @bx130 @ti132)) (And.intro @al132 (And.intro @bx132 @ti133))) (And.intro (And.intro @al133 (And.intro @bx133 @ti134)) (And.intro (And.intro @al134 @bx134) (And.intro @ti135 @al135))))) (And.intro (And.intro (And.intro (And.intro @bx135 (And.intro @ti137 @al137)) (And.intro @bx137 (And.intro @ti138 @al138))) (And.intro (And.intro @bx138 (And.intro @ti139 @al139)) (And.intro (And.intro @bx139 @ti140) (And.intro @al140 @bx140)))) (And.intro (And.intro (And.intro @ti141 (And.intro @al141 @bx141)) (And.intro (And.intro @ti142 @al142) (And.intro @bx142 @ti143))) (And.intro (And.intro @al143 (And.intro @bx143 @ti145)) (And.intro (And.intro @al145 @bx145) (And.intro @ti146 @al146)))))) (And.intro (And.intro (And.intro (And.intro (And.intro @bx146 (And.intro @ti147 @al147)) (And.intro @bx147 (And.intro @ti148 @al148))) (And.intro (And.intro @bx148 (And.intro @ti149 @al149)) (And.intro (And.intro @bx149 @ti150) (And.intro @al150 @bx150)))) (And.intro (And.intro (And.intro @ti151 (And.intro @al151 @bx151)) (And.intro (And.intro @ti152 @al152) (And.intro @bx152 @ti153))) (And.intro (And.intro @al153 (And.intro @bx153 @ti155)) (And.intro (And.intro @al155 @bx155) (And.intro @ti157 @al157))))) (And.intro (And.intro (And.intro (And.intro @bx157 (And.intro @ti158 @al158)) (And.intro @bx158 (And.intro @ti160 @al160))) (And.intro (And.intro @bx160 (And.intro @ti161 @al161)) (And.intro (And.intro @bx161 @ti164) (And.intro @al164 @bx164)))) (And.intro (And.intro (And.intro @ti167 (And.intro @al167 @bx167)) (And.intro (And.intro @ti170 @al170) (And.intro @bx170 @ti171))) (And.intro (And.intro @al171 (And.intro @bx171 @ti174)) (And.intro (And.intro @al174 @bx174) (And.intro @sem_neB @sem_eqB))))))))) := (And.intro (And.intro (And.intro (And.intro (And.intro (And.intro (And.intro (And.intro @ti1 (And.intro @al1 @bx1)) (And.intro @ti2 (And.intro @al2 @bx2))) (And.intro (And.intro @ti3 (And.intro @al3 @bx3)) (And.intro (And.intro @ti4 @al4) (And.intro @bx4 @ti5)))) (And.intro (And.intro (And.intro @al5 (And.intro @bx5 @ti9)) (And.intro @al9 (And.intro @bx9 @ti12))) (And.intro (And.intro @al12 (And.intro @bx12 @ti21)) (And.intro (And.intro @al21 @bx21) (And.intro @ti22 @al22))))) (And.intro (And.intro (And.intro (And.intro @bx22 (And.intro @ti23 @al23)) (And.intro @bx23 (And.intro @ti24 @al24))) (And.intro (And.intro @bx24 (And.intro @ti25 @al25)) (And.intro (And.intro @bx25 @ti26) (And.intro @al26 @bx26)))) (And.intro (And.intro (And.intro @ti27 (And.intro @al27 @bx27)) (And.intro (And.intro @ti28 @al28) (And.intro @bx28 @ti29))) (And.intro (And.intro @al29 (And.intro @bx29 @ti31)) (And.intro (And.intro @al31 @bx31) (And.intro @ti33 @al33)))))) (And.intro (And.intro (And.intro (And.intro (And.intro @bx33 (And.intro @ti34 @al34)) (And.intro @bx34 (And.intro @ti35 @al35))) (And.intro (And.intro @bx35 (And.intro @ti36 @al36)) (And.intro (And.intro @bx36 @ti37) (And.intro @al37 @bx37)))) (And.intro (And.intro (And.intro @ti38 (And.intro @al38 @bx38)) (And.intro (And.intro @ti39 @al39) (And.intro @bx39 @ti40))) (And.intro (And.intro @al40 (And.intro @bx40 @ti41)) (And.intro (And.intro @al41 @bx41) (And.intro @ti43 @al43))))) (And.intro (And.intro (And.intro (And.intro @bx43 (And.intro @ti44 @al44)) (And.intro @bx44 (And.intro @ti45 @al45))) (And.intro (And.intro @bx45 (And.intro @ti46 @al46)) (And.intro (And.intro @bx46 @ti47) (And.intro @al47 @bx47)))) (And.intro (And.intro (And.intro @ti49 (And.intro @al49 @bx49)) (And.intro (And.intro @ti50 @al50) (And.intro @bx50 @ti51))) (And.intro (And.intro @al51 (And.intro @bx51 @ti52)) (And.intro (And.intro @al52 @bx52) (And.intro @ti53 @al53))))))) (And.intro (And.intro (And.intro (And.intro (And.intro (And.intro @bx53 (And.intro @ti54 @al54)) (And.intro @bx54 (And.intro @ti55 @al55))) (And.intro (And.intro @bx55 (And.intro @ti56 @al56)) (And.intro (And.intro @bx56 @ti57) (And.intro @al57 @bx57)))) (And.intro (And.intro (And.intro @ti58 (And.intro @al58 @bx58)) (And.intro @ti59 (And.intro @al59 @bx59))) (And.intro (And.intro @ti60 (And.intro @al60 @bx60)) (And.intro (And.intro @ti61 @al61) (And.intro @bx61 @ti62))))) (And.intro (And.intro (And.intro (And.intro @al62 (And.intro @bx62 @ti63)) (And.intro @al63 (And.intro @bx63 @ti64))) (And.intro (And.intro @al64 (And.intro @bx64 @ti65)) (And.intro (And.intro @al65 @bx65) (And.intro @ti66 @al66)))) (And.intro (And.intro (And.intro @bx66 (And.intro @ti67 @al67)) (And.intro (And.intro @bx67 @ti68) (And.intro @al68 @bx68))) (And.intro (And.intro @ti69 (And.intro @al69 @bx69)) (And.intro (And.intro @ti70 @al70) (And.intro @bx70 @ti71)))))) (And.intro (And.intro (And.intro (And.intro (And.intro @al71 (And.intro @bx71 @ti72)) (And.intro @al72 (And.intro @bx72 @ti73))) (And.intro (And.intro @al73 (And.intro @bx73 @ti74)) (And.intro (And.intro @al74 @bx74) (And.intro @ti75 @al75)))) (And.intro (And.intro (And.intro @bx75 (And.intro @ti76 @al76)) (And.intro (And.intro @bx76 @ti77) (And.intro @al77 @bx77))) (And.intro (And.intro @ti78 (And.intro @al78 @bx78)) (And.intro (And.intro @ti79 @al79) (And.intro @bx79 @ti80))))) (And.intro (And.intro (And.intro (And.intro @al80 (And.intro @bx80 @ti81)) (And.intro @al81 (And.intro @bx81 @ti82))) (And.intro (And.intro @al82 (And.intro @bx82 @ti83)) (And.intro (And.intro @al83 @bx83) (And.intro @ti84 @al84)))) (And.intro (And.intro (And.intro @bx84 (And.intro @ti85 @al85)) (And.intro (And.intro @bx85 @ti86) (And.intro @al86 @bx86))) (And.intro (And.intro @ti87 (And.intro @al87 @bx87)) (And.intro (And.intro @ti88 @al88) (And.intro @bx88 @ti89)))))))) (And.intro (And.intro (And.intro (And.intro (And.intro (And.intro (And.intro @al89 (And.intro @bx89 @ti90)) (And.intro @al90 (And.intro @bx90 @ti91))) (And.intro (And.intro @al91 (And.intro @bx91 @ti92)) (And.intro (And.intro @al92 @bx92) (And.intro @ti93 @al93)))) (And.intro (And.intro (And.intro @bx93 (And.intro @ti94 @al94)) (And.intro @bx94 (And.intro @ti95 @al95))) (And.intro (And.intro @bx95 (And.intro @ti96 @al96)) (And.intro (And.intro @bx96 @ti97) (And.intro @al97 @bx97))))) (And.intro (And.intro (And.intro (And.intro @ti98 (And.intro @al98 @bx98)) (And.intro @ti99 (And.intro @al99 @bx99))) (And.intro (And.intro @ti100 (And.intro @al100 @bx100)) (And.intro (And.intro @ti101 @al101) (And.intro @bx101 @ti102)))) (And.intro (And.intro (And.intro @al102 (And.intro @bx102 @ti103)) (And.intro (And.intro @al103 @bx103) (And.intro @ti104 @al104))) (And.intro (And.intro @bx104 (And.intro @ti105 @al105)) (And.intro (And.intro @bx105 @ti106) (And.intro @al106 @bx106)))))) (And.intro (And.intro (And.intro (And.intro (And.intro @ti107 (And.intro @al107 @bx107)) (And.intro @ti108 (And.intro @al108 @bx108))) (And.intro (And.intro @ti109 (And.intro @al109 @bx109)) (And.intro (And.intro @ti110 @al110) (And.intro @bx110 @ti111)))) (And.intro (And.intro (And.intro @al111 (And.intro @bx111 @ti112)) (And.intro (And.intro @al112 @bx112) (And.intro @ti113 @al113))) (And.intro (And.intro @bx113 (And.intro @ti114 @al114)) (And.intro (And.intro @bx114 @ti115) (And.intro @al115 @bx115))))) (And.intro (And.intro (And.intro (And.intro @ti116 (And.intro @al116 @bx116)) (And.intro @ti117 (And.intro @al117 @bx117))) (And.intro (And.intro @ti118 (And.intro @al118 @bx118)) (And.intro (And.intro @ti119 @al119) (And.intro @bx119 @ti120)))) (And.intro (And.intro (And.intro @al120 (And.intro @bx120 @ti121)) (And.intro (And.intro @al121 @bx121) (And.intro @ti123 @al123))) (And.intro (And.intro @bx123 (And.intro @ti124 @al124)) (And.intro (And.intro @bx124 @ti125) (And.intro @al125 @bx125))))))) (And.intro (And.intro (And.intro (And.intro (And.intro (And.intro @ti126 (And.intro @al126 @bx126)) (And.intro @ti127 (And.intro @al127 @bx127))) (And.intro (And.intro @ti128 (And.intro @al128 @bx128)) (And.intro (And.intro @ti129 @al129) (And.intro @bx129 @ti130)))) (And.intro (And.intro (And.intro @al130 (And.intro @bx130 @ti132)) (And.intro @al132 (And.intro @bx132 @ti133))) (And.intro (And.intro @al133 (And.intro @bx133 @ti134)) (And.intro (And.intro @al134 @bx134) (And.intro @ti135 @al135))))) (And.intro (And.intro (And.intro (And.intro @bx135 (And.intro @ti137 @al137)) (And.intro @bx137 (And.intro @ti138 @al138))) (And.intro (And.intro @bx138 (And.intro @ti139 @al139)) (And.intro (And.intro @bx139 @ti140) (And.intro @al140 @bx140)))) (And.intro (And.intro (And.intro @ti141 (And.intro @al141 @bx141)) (And.intro (And.intro @ti142 @al142) (And.intro @bx142 @ti143))) (And.intro (And.intro @al143 (And.intro @bx143 @ti145)) (And.intro (And.intro @al145 @bx145) (And.intro @ti146 @al146)))))) (And.intro (And.intro (And.intro (And.intro (And.intro @bx146 (And.intro @ti147 @al147)) (And.intro @bx147 (And.intro @ti148 @al148))) (And.intro (And.intro @bx148 (And.intro @ti149 @al149)) (And.intro (And.intro @bx149 @ti150) (And.intro @al150 @bx150)))) (And.intro (And.intro (And.intro @ti151 (And.intro @al151 @bx151)) (And.intro (And.intro @ti152 @al152) (And.intro @bx152 @ti153))) (And.intro (And.intro @al153 (And.intro @bx153 @ti155)) (And.intro (And.intro @al155 @bx155) (And.intro @ti157 @al157))))) (And.intro (And.intro (And.intro (And.intro @bx157 (And.intro @ti158 @al158)) (And.intro @bx158 (And.intro @ti160 @al160))) (And.intro (And.intro @bx160 (And.intro @ti161 @al161)) (And.intro (And.intro @bx161 @ti164) (And.intro @al164 @bx164)))) (And.intro (And.intro (And.intro @ti167 (And.intro @al167 @bx167)) (And.intro (And.intro @ti170 @al170) (And.intro @bx170 @ti171))) (And.intro (And.intro @al171 (And.intro @bx171 @ti174)) (And.intro (And.intro @al174 @bx174) (And.intro @sem_neB @sem_eqB)))))))))
theorem mixed : Try.prog.follows .mixedOrders = true := by kernel_rfl
theorem laidOut : laidOutB Try.prog = true := by kernel_rfl
theorem ownK : ownKnob Try.prog.godebug = none := by kernel_rfl
end Go.Proofs.Yteempjinbolkaaa
