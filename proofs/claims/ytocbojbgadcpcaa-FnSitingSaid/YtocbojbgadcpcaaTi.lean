/-
  OWN WORK, printed by program: the types of this seat, as the walk over abstract states asks for them.
-/
import Derived.Test.YtocbojbgadcpcaaChecked
import Derived.Test.YtocbojbgadcpcaaOwnM
namespace Go.Proofs.Ytocbojbgadcpcaa
open Go Go.Own Go.Proofs
instance : GL := ⟨[], by simp⟩
theorem noGlobs (E : Env) : Globs E := fun p hp => by cases hp
theorem aalloc_of {P : Program} {t : TypeId} {i : TI} (h : ti P t = some i) (s : ASt) (d : Nat) : aalloc P s d t = s.new d i.size i.zero (.ptr (s.gh.nm d) s.gen 0) := by unfold aalloc; rw [h]
theorem abox_of {P : Program} {t : TypeId} {i : TI} (h : ti P t = some i) (s : ASt) (d : Nat) (x : AVal) : abox P s d t x = (match cellsOf x with | some vs => s.new d i.size vs (.ptr (s.gh.nm d) s.gen 0) | none => none) := by unfold abox; rw [h]; cases cellsOf x <;> rfl
theorem ti1 : ti Try.prog 1 = some ⟨1, false, 8, [.flat .nilFunc], .none⟩ := (ti_eq _ _).trans (by kernel_rfl)
theorem al1 (s : ASt) (d : Nat) : aalloc Try.prog s d 1 = s.new d 1 [.flat .nilFunc] (.ptr (s.gh.nm d) s.gen 0) := aalloc_of ti1 s d
theorem bx1 (s : ASt) (d : Nat) (x : AVal) : abox Try.prog s d 1 x = (match cellsOf x with | some vs => s.new d 1 vs (.ptr (s.gh.nm d) s.gen 0) | none => none) := abox_of ti1 s d x
theorem ti2 : ti Try.prog 2 = some ⟨1, false, 8, [.flat (.int .i64 0)], .none⟩ := (ti_eq _ _).trans (by kernel_rfl)
theorem al2 (s : ASt) (d : Nat) : aalloc Try.prog s d 2 = s.new d 1 [.flat (.int .i64 0)] (.ptr (s.gh.nm d) s.gen 0) := aalloc_of ti2 s d
theorem bx2 (s : ASt) (d : Nat) (x : AVal) : abox Try.prog s d 2 x = (match cellsOf x with | some vs => s.new d 1 vs (.ptr (s.gh.nm d) s.gen 0) | none => none) := abox_of ti2 s d x
theorem ti3 : ti Try.prog 3 = some ⟨1, false, 8, [.flat (.int .i64 0)], .none⟩ := (ti_eq _ _).trans (by kernel_rfl)
theorem al3 (s : ASt) (d : Nat) : aalloc Try.prog s d 3 = s.new d 1 [.flat (.int .i64 0)] (.ptr (s.gh.nm d) s.gen 0) := aalloc_of ti3 s d
theorem bx3 (s : ASt) (d : Nat) (x : AVal) : abox Try.prog s d 3 x = (match cellsOf x with | some vs => s.new d 1 vs (.ptr (s.gh.nm d) s.gen 0) | none => none) := abox_of ti3 s d x
theorem ti4 : ti Try.prog 4 = some ⟨1, false, 1, [.flat (.bool false)], .none⟩ := (ti_eq _ _).trans (by kernel_rfl)
theorem al4 (s : ASt) (d : Nat) : aalloc Try.prog s d 4 = s.new d 1 [.flat (.bool false)] (.ptr (s.gh.nm d) s.gen 0) := aalloc_of ti4 s d
theorem bx4 (s : ASt) (d : Nat) (x : AVal) : abox Try.prog s d 4 x = (match cellsOf x with | some vs => s.new d 1 vs (.ptr (s.gh.nm d) s.gen 0) | none => none) := abox_of ti4 s d x
theorem ti5 : ti Try.prog 5 = some ⟨1, false, 1, [.flat (.int .u8 0)], .none⟩ := (ti_eq _ _).trans (by kernel_rfl)
theorem al5 (s : ASt) (d : Nat) : aalloc Try.prog s d 5 = s.new d 1 [.flat (.int .u8 0)] (.ptr (s.gh.nm d) s.gen 0) := aalloc_of ti5 s d
theorem bx5 (s : ASt) (d : Nat) (x : AVal) : abox Try.prog s d 5 x = (match cellsOf x with | some vs => s.new d 1 vs (.ptr (s.gh.nm d) s.gen 0) | none => none) := abox_of ti5 s d x
theorem ti9 : ti Try.prog 9 = some ⟨1, false, 16, [.flat (.string ByteArray.empty)], .str⟩ := (ti_eq _ _).trans (by kernel_rfl)
theorem al9 (s : ASt) (d : Nat) : aalloc Try.prog s d 9 = s.new d 1 [.flat (.string ByteArray.empty)] (.ptr (s.gh.nm d) s.gen 0) := aalloc_of ti9 s d
theorem bx9 (s : ASt) (d : Nat) (x : AVal) : abox Try.prog s d 9 x = (match cellsOf x with | some vs => s.new d 1 vs (.ptr (s.gh.nm d) s.gen 0) | none => none) := abox_of ti9 s d x
theorem ti12 : ti Try.prog 12 = some ⟨1, false, 8, [.flat (.int .u64 0)], .none⟩ := (ti_eq _ _).trans (by kernel_rfl)
theorem al12 (s : ASt) (d : Nat) : aalloc Try.prog s d 12 = s.new d 1 [.flat (.int .u64 0)] (.ptr (s.gh.nm d) s.gen 0) := aalloc_of ti12 s d
theorem bx12 (s : ASt) (d : Nat) (x : AVal) : abox Try.prog s d 12 x = (match cellsOf x with | some vs => s.new d 1 vs (.ptr (s.gh.nm d) s.gen 0) | none => none) := abox_of ti12 s d x
theorem ti21 : ti Try.prog 21 = some ⟨1, false, 4, [.flat (.int .i32 0)], .none⟩ := (ti_eq _ _).trans (by kernel_rfl)
theorem al21 (s : ASt) (d : Nat) : aalloc Try.prog s d 21 = s.new d 1 [.flat (.int .i32 0)] (.ptr (s.gh.nm d) s.gen 0) := aalloc_of ti21 s d
theorem bx21 (s : ASt) (d : Nat) (x : AVal) : abox Try.prog s d 21 x = (match cellsOf x with | some vs => s.new d 1 vs (.ptr (s.gh.nm d) s.gen 0) | none => none) := abox_of ti21 s d x
theorem ti22 : ti Try.prog 22 = some ⟨1, false, 24, [.nl], .slice 5⟩ := (ti_eq _ _).trans (by kernel_rfl)
theorem al22 (s : ASt) (d : Nat) : aalloc Try.prog s d 22 = s.new d 1 [.nl] (.ptr (s.gh.nm d) s.gen 0) := aalloc_of ti22 s d
theorem bx22 (s : ASt) (d : Nat) (x : AVal) : abox Try.prog s d 22 x = (match cellsOf x with | some vs => s.new d 1 vs (.ptr (s.gh.nm d) s.gen 0) | none => none) := abox_of ti22 s d x
theorem ti23 : ti Try.prog 23 = some ⟨1, false, 8, [.flat .nilFunc], .none⟩ := (ti_eq _ _).trans (by kernel_rfl)
theorem al23 (s : ASt) (d : Nat) : aalloc Try.prog s d 23 = s.new d 1 [.flat .nilFunc] (.ptr (s.gh.nm d) s.gen 0) := aalloc_of ti23 s d
theorem bx23 (s : ASt) (d : Nat) (x : AVal) : abox Try.prog s d 23 x = (match cellsOf x with | some vs => s.new d 1 vs (.ptr (s.gh.nm d) s.gen 0) | none => none) := abox_of ti23 s d x
theorem ti24 : ti Try.prog 24 = some ⟨1, false, 24, [.nl], .slice 2⟩ := (ti_eq _ _).trans (by kernel_rfl)
theorem al24 (s : ASt) (d : Nat) : aalloc Try.prog s d 24 = s.new d 1 [.nl] (.ptr (s.gh.nm d) s.gen 0) := aalloc_of ti24 s d
theorem bx24 (s : ASt) (d : Nat) (x : AVal) : abox Try.prog s d 24 x = (match cellsOf x with | some vs => s.new d 1 vs (.ptr (s.gh.nm d) s.gen 0) | none => none) := abox_of ti24 s d x
theorem ti25 : ti Try.prog 25 = some ⟨1, false, 24, [.nl], .slice 24⟩ := (ti_eq _ _).trans (by kernel_rfl)
theorem al25 (s : ASt) (d : Nat) : aalloc Try.prog s d 25 = s.new d 1 [.nl] (.ptr (s.gh.nm d) s.gen 0) := aalloc_of ti25 s d
theorem bx25 (s : ASt) (d : Nat) (x : AVal) : abox Try.prog s d 25 x = (match cellsOf x with | some vs => s.new d 1 vs (.ptr (s.gh.nm d) s.gen 0) | none => none) := abox_of ti25 s d x
theorem ti26 : ti Try.prog 26 = some ⟨3, true, 72, [.nl, .nl, .nl], .struct [(0, 24), (1, 25), (2, 24)]⟩ := (ti_eq _ _).trans (by kernel_rfl)
theorem al26 (s : ASt) (d : Nat) : aalloc Try.prog s d 26 = s.new d 3 [.nl, .nl, .nl] (.ptr (s.gh.nm d) s.gen 0) := aalloc_of ti26 s d
theorem bx26 (s : ASt) (d : Nat) (x : AVal) : abox Try.prog s d 26 x = (match cellsOf x with | some vs => s.new d 3 vs (.ptr (s.gh.nm d) s.gen 0) | none => none) := abox_of ti26 s d x
theorem ti27 : ti Try.prog 27 = some ⟨3, true, 72, [.nl, .nl, .nl], .struct [(0, 24), (1, 25), (2, 24)]⟩ := (ti_eq _ _).trans (by kernel_rfl)
theorem al27 (s : ASt) (d : Nat) : aalloc Try.prog s d 27 = s.new d 3 [.nl, .nl, .nl] (.ptr (s.gh.nm d) s.gen 0) := aalloc_of ti27 s d
theorem bx27 (s : ASt) (d : Nat) (x : AVal) : abox Try.prog s d 27 x = (match cellsOf x with | some vs => s.new d 3 vs (.ptr (s.gh.nm d) s.gen 0) | none => none) := abox_of ti27 s d x
theorem ti28 : ti Try.prog 28 = some ⟨1, false, 8, [.flat .nilFunc], .none⟩ := (ti_eq _ _).trans (by kernel_rfl)
theorem al28 (s : ASt) (d : Nat) : aalloc Try.prog s d 28 = s.new d 1 [.flat .nilFunc] (.ptr (s.gh.nm d) s.gen 0) := aalloc_of ti28 s d
theorem bx28 (s : ASt) (d : Nat) (x : AVal) : abox Try.prog s d 28 x = (match cellsOf x with | some vs => s.new d 1 vs (.ptr (s.gh.nm d) s.gen 0) | none => none) := abox_of ti28 s d x
theorem ti29 : ti Try.prog 29 = some ⟨1, false, 8, [.flat .nilFunc], .none⟩ := (ti_eq _ _).trans (by kernel_rfl)
theorem al29 (s : ASt) (d : Nat) : aalloc Try.prog s d 29 = s.new d 1 [.flat .nilFunc] (.ptr (s.gh.nm d) s.gen 0) := aalloc_of ti29 s d
theorem bx29 (s : ASt) (d : Nat) (x : AVal) : abox Try.prog s d 29 x = (match cellsOf x with | some vs => s.new d 1 vs (.ptr (s.gh.nm d) s.gen 0) | none => none) := abox_of ti29 s d x
theorem ti31 : ti Try.prog 31 = some ⟨1, false, 8, [.flat .nilFunc], .none⟩ := (ti_eq _ _).trans (by kernel_rfl)
theorem al31 (s : ASt) (d : Nat) : aalloc Try.prog s d 31 = s.new d 1 [.flat .nilFunc] (.ptr (s.gh.nm d) s.gen 0) := aalloc_of ti31 s d
theorem bx31 (s : ASt) (d : Nat) (x : AVal) : abox Try.prog s d 31 x = (match cellsOf x with | some vs => s.new d 1 vs (.ptr (s.gh.nm d) s.gen 0) | none => none) := abox_of ti31 s d x
theorem ti32 : ti Try.prog 32 = some ⟨1, false, 8, [.flat .nilFunc], .none⟩ := (ti_eq _ _).trans (by kernel_rfl)
theorem al32 (s : ASt) (d : Nat) : aalloc Try.prog s d 32 = s.new d 1 [.flat .nilFunc] (.ptr (s.gh.nm d) s.gen 0) := aalloc_of ti32 s d
theorem bx32 (s : ASt) (d : Nat) (x : AVal) : abox Try.prog s d 32 x = (match cellsOf x with | some vs => s.new d 1 vs (.ptr (s.gh.nm d) s.gen 0) | none => none) := abox_of ti32 s d x
theorem ti34 : ti Try.prog 34 = some ⟨1, false, 8, [.flat .nilFunc], .none⟩ := (ti_eq _ _).trans (by kernel_rfl)
theorem al34 (s : ASt) (d : Nat) : aalloc Try.prog s d 34 = s.new d 1 [.flat .nilFunc] (.ptr (s.gh.nm d) s.gen 0) := aalloc_of ti34 s d
theorem bx34 (s : ASt) (d : Nat) (x : AVal) : abox Try.prog s d 34 x = (match cellsOf x with | some vs => s.new d 1 vs (.ptr (s.gh.nm d) s.gen 0) | none => none) := abox_of ti34 s d x
theorem ti35 : ti Try.prog 35 = some ⟨1, false, 8, [.flat .nilFunc], .none⟩ := (ti_eq _ _).trans (by kernel_rfl)
theorem al35 (s : ASt) (d : Nat) : aalloc Try.prog s d 35 = s.new d 1 [.flat .nilFunc] (.ptr (s.gh.nm d) s.gen 0) := aalloc_of ti35 s d
theorem bx35 (s : ASt) (d : Nat) (x : AVal) : abox Try.prog s d 35 x = (match cellsOf x with | some vs => s.new d 1 vs (.ptr (s.gh.nm d) s.gen 0) | none => none) := abox_of ti35 s d x
theorem ti36 : ti Try.prog 36 = some ⟨1, false, 8, [.flat .nilFunc], .none⟩ := (ti_eq _ _).trans (by kernel_rfl)
theorem al36 (s : ASt) (d : Nat) : aalloc Try.prog s d 36 = s.new d 1 [.flat .nilFunc] (.ptr (s.gh.nm d) s.gen 0) := aalloc_of ti36 s d
theorem bx36 (s : ASt) (d : Nat) (x : AVal) : abox Try.prog s d 36 x = (match cellsOf x with | some vs => s.new d 1 vs (.ptr (s.gh.nm d) s.gen 0) | none => none) := abox_of ti36 s d x
theorem ti37 : ti Try.prog 37 = some ⟨1, false, 8, [.flat .nilFunc], .none⟩ := (ti_eq _ _).trans (by kernel_rfl)
theorem al37 (s : ASt) (d : Nat) : aalloc Try.prog s d 37 = s.new d 1 [.flat .nilFunc] (.ptr (s.gh.nm d) s.gen 0) := aalloc_of ti37 s d
theorem bx37 (s : ASt) (d : Nat) (x : AVal) : abox Try.prog s d 37 x = (match cellsOf x with | some vs => s.new d 1 vs (.ptr (s.gh.nm d) s.gen 0) | none => none) := abox_of ti37 s d x
theorem ti38 : ti Try.prog 38 = some ⟨1, false, 8, [.flat .nilFunc], .none⟩ := (ti_eq _ _).trans (by kernel_rfl)
theorem al38 (s : ASt) (d : Nat) : aalloc Try.prog s d 38 = s.new d 1 [.flat .nilFunc] (.ptr (s.gh.nm d) s.gen 0) := aalloc_of ti38 s d
theorem bx38 (s : ASt) (d : Nat) (x : AVal) : abox Try.prog s d 38 x = (match cellsOf x with | some vs => s.new d 1 vs (.ptr (s.gh.nm d) s.gen 0) | none => none) := abox_of ti38 s d x
theorem ti39 : ti Try.prog 39 = some ⟨1, false, 8, [.flat (.pointer none)], .none⟩ := (ti_eq _ _).trans (by kernel_rfl)
theorem al39 (s : ASt) (d : Nat) : aalloc Try.prog s d 39 = s.new d 1 [.flat (.pointer none)] (.ptr (s.gh.nm d) s.gen 0) := aalloc_of ti39 s d
theorem bx39 (s : ASt) (d : Nat) (x : AVal) : abox Try.prog s d 39 x = (match cellsOf x with | some vs => s.new d 1 vs (.ptr (s.gh.nm d) s.gen 0) | none => none) := abox_of ti39 s d x
theorem ti40 : ti Try.prog 40 = some ⟨1, false, 8, [.flat .nilFunc], .none⟩ := (ti_eq _ _).trans (by kernel_rfl)
theorem al40 (s : ASt) (d : Nat) : aalloc Try.prog s d 40 = s.new d 1 [.flat .nilFunc] (.ptr (s.gh.nm d) s.gen 0) := aalloc_of ti40 s d
theorem bx40 (s : ASt) (d : Nat) (x : AVal) : abox Try.prog s d 40 x = (match cellsOf x with | some vs => s.new d 1 vs (.ptr (s.gh.nm d) s.gen 0) | none => none) := abox_of ti40 s d x
theorem ti41 : ti Try.prog 41 = some ⟨1, false, 8, [.flat .nilFunc], .none⟩ := (ti_eq _ _).trans (by kernel_rfl)
theorem al41 (s : ASt) (d : Nat) : aalloc Try.prog s d 41 = s.new d 1 [.flat .nilFunc] (.ptr (s.gh.nm d) s.gen 0) := aalloc_of ti41 s d
theorem bx41 (s : ASt) (d : Nat) (x : AVal) : abox Try.prog s d 41 x = (match cellsOf x with | some vs => s.new d 1 vs (.ptr (s.gh.nm d) s.gen 0) | none => none) := abox_of ti41 s d x
theorem ti42 : ti Try.prog 42 = some ⟨1, false, 8, [.flat .nilFunc], .none⟩ := (ti_eq _ _).trans (by kernel_rfl)
theorem al42 (s : ASt) (d : Nat) : aalloc Try.prog s d 42 = s.new d 1 [.flat .nilFunc] (.ptr (s.gh.nm d) s.gen 0) := aalloc_of ti42 s d
theorem bx42 (s : ASt) (d : Nat) (x : AVal) : abox Try.prog s d 42 x = (match cellsOf x with | some vs => s.new d 1 vs (.ptr (s.gh.nm d) s.gen 0) | none => none) := abox_of ti42 s d x
theorem ti43 : ti Try.prog 43 = some ⟨1, false, 8, [.flat .nilFunc], .none⟩ := (ti_eq _ _).trans (by kernel_rfl)
theorem al43 (s : ASt) (d : Nat) : aalloc Try.prog s d 43 = s.new d 1 [.flat .nilFunc] (.ptr (s.gh.nm d) s.gen 0) := aalloc_of ti43 s d
theorem bx43 (s : ASt) (d : Nat) (x : AVal) : abox Try.prog s d 43 x = (match cellsOf x with | some vs => s.new d 1 vs (.ptr (s.gh.nm d) s.gen 0) | none => none) := abox_of ti43 s d x
theorem ti44 : ti Try.prog 44 = some ⟨1, false, 8, [.flat .nilFunc], .none⟩ := (ti_eq _ _).trans (by kernel_rfl)
theorem al44 (s : ASt) (d : Nat) : aalloc Try.prog s d 44 = s.new d 1 [.flat .nilFunc] (.ptr (s.gh.nm d) s.gen 0) := aalloc_of ti44 s d
theorem bx44 (s : ASt) (d : Nat) (x : AVal) : abox Try.prog s d 44 x = (match cellsOf x with | some vs => s.new d 1 vs (.ptr (s.gh.nm d) s.gen 0) | none => none) := abox_of ti44 s d x
theorem ti45 : ti Try.prog 45 = some ⟨1, false, 8, [.flat .nilFunc], .none⟩ := (ti_eq _ _).trans (by kernel_rfl)
theorem al45 (s : ASt) (d : Nat) : aalloc Try.prog s d 45 = s.new d 1 [.flat .nilFunc] (.ptr (s.gh.nm d) s.gen 0) := aalloc_of ti45 s d
theorem bx45 (s : ASt) (d : Nat) (x : AVal) : abox Try.prog s d 45 x = (match cellsOf x with | some vs => s.new d 1 vs (.ptr (s.gh.nm d) s.gen 0) | none => none) := abox_of ti45 s d x
theorem ti46 : ti Try.prog 46 = some ⟨1, false, 8, [.flat .nilFunc], .none⟩ := (ti_eq _ _).trans (by kernel_rfl)
theorem al46 (s : ASt) (d : Nat) : aalloc Try.prog s d 46 = s.new d 1 [.flat .nilFunc] (.ptr (s.gh.nm d) s.gen 0) := aalloc_of ti46 s d
theorem bx46 (s : ASt) (d : Nat) (x : AVal) : abox Try.prog s d 46 x = (match cellsOf x with | some vs => s.new d 1 vs (.ptr (s.gh.nm d) s.gen 0) | none => none) := abox_of ti46 s d x
theorem ti47 : ti Try.prog 47 = some ⟨1, false, 8, [.flat .nilFunc], .none⟩ := (ti_eq _ _).trans (by kernel_rfl)
theorem al47 (s : ASt) (d : Nat) : aalloc Try.prog s d 47 = s.new d 1 [.flat .nilFunc] (.ptr (s.gh.nm d) s.gen 0) := aalloc_of ti47 s d
theorem bx47 (s : ASt) (d : Nat) (x : AVal) : abox Try.prog s d 47 x = (match cellsOf x with | some vs => s.new d 1 vs (.ptr (s.gh.nm d) s.gen 0) | none => none) := abox_of ti47 s d x
theorem ti48 : ti Try.prog 48 = some ⟨1, false, 8, [.flat .nilFunc], .none⟩ := (ti_eq _ _).trans (by kernel_rfl)
theorem al48 (s : ASt) (d : Nat) : aalloc Try.prog s d 48 = s.new d 1 [.flat .nilFunc] (.ptr (s.gh.nm d) s.gen 0) := aalloc_of ti48 s d
theorem bx48 (s : ASt) (d : Nat) (x : AVal) : abox Try.prog s d 48 x = (match cellsOf x with | some vs => s.new d 1 vs (.ptr (s.gh.nm d) s.gen 0) | none => none) := abox_of ti48 s d x
theorem ti49 : ti Try.prog 49 = some ⟨1, false, 8, [.flat .nilFunc], .none⟩ := (ti_eq _ _).trans (by kernel_rfl)
theorem al49 (s : ASt) (d : Nat) : aalloc Try.prog s d 49 = s.new d 1 [.flat .nilFunc] (.ptr (s.gh.nm d) s.gen 0) := aalloc_of ti49 s d
theorem bx49 (s : ASt) (d : Nat) (x : AVal) : abox Try.prog s d 49 x = (match cellsOf x with | some vs => s.new d 1 vs (.ptr (s.gh.nm d) s.gen 0) | none => none) := abox_of ti49 s d x
theorem ti50 : ti Try.prog 50 = some ⟨1, false, 8, [.flat .nilFunc], .none⟩ := (ti_eq _ _).trans (by kernel_rfl)
theorem al50 (s : ASt) (d : Nat) : aalloc Try.prog s d 50 = s.new d 1 [.flat .nilFunc] (.ptr (s.gh.nm d) s.gen 0) := aalloc_of ti50 s d
theorem bx50 (s : ASt) (d : Nat) (x : AVal) : abox Try.prog s d 50 x = (match cellsOf x with | some vs => s.new d 1 vs (.ptr (s.gh.nm d) s.gen 0) | none => none) := abox_of ti50 s d x
theorem ti51 : ti Try.prog 51 = some ⟨1, false, 8, [.flat .nilFunc], .none⟩ := (ti_eq _ _).trans (by kernel_rfl)
theorem al51 (s : ASt) (d : Nat) : aalloc Try.prog s d 51 = s.new d 1 [.flat .nilFunc] (.ptr (s.gh.nm d) s.gen 0) := aalloc_of ti51 s d
theorem bx51 (s : ASt) (d : Nat) (x : AVal) : abox Try.prog s d 51 x = (match cellsOf x with | some vs => s.new d 1 vs (.ptr (s.gh.nm d) s.gen 0) | none => none) := abox_of ti51 s d x
theorem ti52 : ti Try.prog 52 = some ⟨1, false, 8, [.flat .nilFunc], .none⟩ := (ti_eq _ _).trans (by kernel_rfl)
theorem al52 (s : ASt) (d : Nat) : aalloc Try.prog s d 52 = s.new d 1 [.flat .nilFunc] (.ptr (s.gh.nm d) s.gen 0) := aalloc_of ti52 s d
theorem bx52 (s : ASt) (d : Nat) (x : AVal) : abox Try.prog s d 52 x = (match cellsOf x with | some vs => s.new d 1 vs (.ptr (s.gh.nm d) s.gen 0) | none => none) := abox_of ti52 s d x
theorem ti53 : ti Try.prog 53 = some ⟨1, false, 8, [.flat .nilFunc], .none⟩ := (ti_eq _ _).trans (by kernel_rfl)
theorem al53 (s : ASt) (d : Nat) : aalloc Try.prog s d 53 = s.new d 1 [.flat .nilFunc] (.ptr (s.gh.nm d) s.gen 0) := aalloc_of ti53 s d
theorem bx53 (s : ASt) (d : Nat) (x : AVal) : abox Try.prog s d 53 x = (match cellsOf x with | some vs => s.new d 1 vs (.ptr (s.gh.nm d) s.gen 0) | none => none) := abox_of ti53 s d x
theorem ti54 : ti Try.prog 54 = some ⟨7, true, 136, [.nl, .nl, .nl, .flat (.int .i64 0), .nl, .nl, .flat (.int .i64 0)], .struct [(0, 27), (3, 2), (4, 24), (5, 24), (6, 2)]⟩ := (ti_eq _ _).trans (by kernel_rfl)
theorem al54 (s : ASt) (d : Nat) : aalloc Try.prog s d 54 = s.new d 7 [.nl, .nl, .nl, .flat (.int .i64 0), .nl, .nl, .flat (.int .i64 0)] (.ptr (s.gh.nm d) s.gen 0) := aalloc_of ti54 s d
theorem bx54 (s : ASt) (d : Nat) (x : AVal) : abox Try.prog s d 54 x = (match cellsOf x with | some vs => s.new d 7 vs (.ptr (s.gh.nm d) s.gen 0) | none => none) := abox_of ti54 s d x
theorem ti55 : ti Try.prog 55 = some ⟨7, true, 136, [.nl, .nl, .nl, .flat (.int .i64 0), .nl, .nl, .flat (.int .i64 0)], .struct [(0, 27), (3, 2), (4, 24), (5, 24), (6, 2)]⟩ := (ti_eq _ _).trans (by kernel_rfl)
theorem al55 (s : ASt) (d : Nat) : aalloc Try.prog s d 55 = s.new d 7 [.nl, .nl, .nl, .flat (.int .i64 0), .nl, .nl, .flat (.int .i64 0)] (.ptr (s.gh.nm d) s.gen 0) := aalloc_of ti55 s d
theorem bx55 (s : ASt) (d : Nat) (x : AVal) : abox Try.prog s d 55 x = (match cellsOf x with | some vs => s.new d 7 vs (.ptr (s.gh.nm d) s.gen 0) | none => none) := abox_of ti55 s d x
theorem ti56 : ti Try.prog 56 = some ⟨1, false, 8, [.flat .nilFunc], .none⟩ := (ti_eq _ _).trans (by kernel_rfl)
theorem al56 (s : ASt) (d : Nat) : aalloc Try.prog s d 56 = s.new d 1 [.flat .nilFunc] (.ptr (s.gh.nm d) s.gen 0) := aalloc_of ti56 s d
theorem bx56 (s : ASt) (d : Nat) (x : AVal) : abox Try.prog s d 56 x = (match cellsOf x with | some vs => s.new d 1 vs (.ptr (s.gh.nm d) s.gen 0) | none => none) := abox_of ti56 s d x
theorem ti57 : ti Try.prog 57 = some ⟨1, false, 8, [.flat .nilFunc], .none⟩ := (ti_eq _ _).trans (by kernel_rfl)
theorem al57 (s : ASt) (d : Nat) : aalloc Try.prog s d 57 = s.new d 1 [.flat .nilFunc] (.ptr (s.gh.nm d) s.gen 0) := aalloc_of ti57 s d
theorem bx57 (s : ASt) (d : Nat) (x : AVal) : abox Try.prog s d 57 x = (match cellsOf x with | some vs => s.new d 1 vs (.ptr (s.gh.nm d) s.gen 0) | none => none) := abox_of ti57 s d x
theorem ti58 : ti Try.prog 58 = some ⟨1, false, 8, [.flat (.pointer none)], .none⟩ := (ti_eq _ _).trans (by kernel_rfl)
theorem al58 (s : ASt) (d : Nat) : aalloc Try.prog s d 58 = s.new d 1 [.flat (.pointer none)] (.ptr (s.gh.nm d) s.gen 0) := aalloc_of ti58 s d
theorem bx58 (s : ASt) (d : Nat) (x : AVal) : abox Try.prog s d 58 x = (match cellsOf x with | some vs => s.new d 1 vs (.ptr (s.gh.nm d) s.gen 0) | none => none) := abox_of ti58 s d x
theorem ti59 : ti Try.prog 59 = some ⟨1, false, 8, [.flat .nilFunc], .none⟩ := (ti_eq _ _).trans (by kernel_rfl)
theorem al59 (s : ASt) (d : Nat) : aalloc Try.prog s d 59 = s.new d 1 [.flat .nilFunc] (.ptr (s.gh.nm d) s.gen 0) := aalloc_of ti59 s d
theorem bx59 (s : ASt) (d : Nat) (x : AVal) : abox Try.prog s d 59 x = (match cellsOf x with | some vs => s.new d 1 vs (.ptr (s.gh.nm d) s.gen 0) | none => none) := abox_of ti59 s d x
theorem ti60 : ti Try.prog 60 = some ⟨1, false, 8, [.flat (.int .u64 0)], .none⟩ := (ti_eq _ _).trans (by kernel_rfl)
theorem al60 (s : ASt) (d : Nat) : aalloc Try.prog s d 60 = s.new d 1 [.flat (.int .u64 0)] (.ptr (s.gh.nm d) s.gen 0) := aalloc_of ti60 s d
theorem bx60 (s : ASt) (d : Nat) (x : AVal) : abox Try.prog s d 60 x = (match cellsOf x with | some vs => s.new d 1 vs (.ptr (s.gh.nm d) s.gen 0) | none => none) := abox_of ti60 s d x
theorem ti61 : ti Try.prog 61 = some ⟨3, true, 40, [.nl, .flat (.int .i64 0), .flat (.int .u64 0)], .struct [(0, 22), (1, 3), (2, 60)]⟩ := (ti_eq _ _).trans (by kernel_rfl)
theorem al61 (s : ASt) (d : Nat) : aalloc Try.prog s d 61 = s.new d 3 [.nl, .flat (.int .i64 0), .flat (.int .u64 0)] (.ptr (s.gh.nm d) s.gen 0) := aalloc_of ti61 s d
theorem bx61 (s : ASt) (d : Nat) (x : AVal) : abox Try.prog s d 61 x = (match cellsOf x with | some vs => s.new d 3 vs (.ptr (s.gh.nm d) s.gen 0) | none => none) := abox_of ti61 s d x
theorem ti62 : ti Try.prog 62 = some ⟨3, true, 40, [.nl, .flat (.int .i64 0), .flat (.int .u64 0)], .struct [(0, 22), (1, 3), (2, 60)]⟩ := (ti_eq _ _).trans (by kernel_rfl)
theorem al62 (s : ASt) (d : Nat) : aalloc Try.prog s d 62 = s.new d 3 [.nl, .flat (.int .i64 0), .flat (.int .u64 0)] (.ptr (s.gh.nm d) s.gen 0) := aalloc_of ti62 s d
theorem bx62 (s : ASt) (d : Nat) (x : AVal) : abox Try.prog s d 62 x = (match cellsOf x with | some vs => s.new d 3 vs (.ptr (s.gh.nm d) s.gen 0) | none => none) := abox_of ti62 s d x
theorem ti63 : ti Try.prog 63 = some ⟨1, false, 8, [.flat .nilFunc], .none⟩ := (ti_eq _ _).trans (by kernel_rfl)
theorem al63 (s : ASt) (d : Nat) : aalloc Try.prog s d 63 = s.new d 1 [.flat .nilFunc] (.ptr (s.gh.nm d) s.gen 0) := aalloc_of ti63 s d
theorem bx63 (s : ASt) (d : Nat) (x : AVal) : abox Try.prog s d 63 x = (match cellsOf x with | some vs => s.new d 1 vs (.ptr (s.gh.nm d) s.gen 0) | none => none) := abox_of ti63 s d x
theorem ti64 : ti Try.prog 64 = some ⟨1, false, 8, [.flat .nilFunc], .none⟩ := (ti_eq _ _).trans (by kernel_rfl)
theorem al64 (s : ASt) (d : Nat) : aalloc Try.prog s d 64 = s.new d 1 [.flat .nilFunc] (.ptr (s.gh.nm d) s.gen 0) := aalloc_of ti64 s d
theorem bx64 (s : ASt) (d : Nat) (x : AVal) : abox Try.prog s d 64 x = (match cellsOf x with | some vs => s.new d 1 vs (.ptr (s.gh.nm d) s.gen 0) | none => none) := abox_of ti64 s d x
theorem ti65 : ti Try.prog 65 = some ⟨1, false, 8, [.flat .nilFunc], .none⟩ := (ti_eq _ _).trans (by kernel_rfl)
theorem al65 (s : ASt) (d : Nat) : aalloc Try.prog s d 65 = s.new d 1 [.flat .nilFunc] (.ptr (s.gh.nm d) s.gen 0) := aalloc_of ti65 s d
theorem bx65 (s : ASt) (d : Nat) (x : AVal) : abox Try.prog s d 65 x = (match cellsOf x with | some vs => s.new d 1 vs (.ptr (s.gh.nm d) s.gen 0) | none => none) := abox_of ti65 s d x
theorem ti66 : ti Try.prog 66 = some ⟨1, false, 8, [.flat .nilFunc], .none⟩ := (ti_eq _ _).trans (by kernel_rfl)
theorem al66 (s : ASt) (d : Nat) : aalloc Try.prog s d 66 = s.new d 1 [.flat .nilFunc] (.ptr (s.gh.nm d) s.gen 0) := aalloc_of ti66 s d
theorem bx66 (s : ASt) (d : Nat) (x : AVal) : abox Try.prog s d 66 x = (match cellsOf x with | some vs => s.new d 1 vs (.ptr (s.gh.nm d) s.gen 0) | none => none) := abox_of ti66 s d x
theorem ti67 : ti Try.prog 67 = some ⟨1, false, 8, [.flat .nilFunc], .none⟩ := (ti_eq _ _).trans (by kernel_rfl)
theorem al67 (s : ASt) (d : Nat) : aalloc Try.prog s d 67 = s.new d 1 [.flat .nilFunc] (.ptr (s.gh.nm d) s.gen 0) := aalloc_of ti67 s d
theorem bx67 (s : ASt) (d : Nat) (x : AVal) : abox Try.prog s d 67 x = (match cellsOf x with | some vs => s.new d 1 vs (.ptr (s.gh.nm d) s.gen 0) | none => none) := abox_of ti67 s d x
theorem ti68 : ti Try.prog 68 = some ⟨1, false, 8, [.flat .nilFunc], .none⟩ := (ti_eq _ _).trans (by kernel_rfl)
theorem al68 (s : ASt) (d : Nat) : aalloc Try.prog s d 68 = s.new d 1 [.flat .nilFunc] (.ptr (s.gh.nm d) s.gen 0) := aalloc_of ti68 s d
theorem bx68 (s : ASt) (d : Nat) (x : AVal) : abox Try.prog s d 68 x = (match cellsOf x with | some vs => s.new d 1 vs (.ptr (s.gh.nm d) s.gen 0) | none => none) := abox_of ti68 s d x
theorem ti69 : ti Try.prog 69 = some ⟨1, false, 8, [.flat .nilFunc], .none⟩ := (ti_eq _ _).trans (by kernel_rfl)
theorem al69 (s : ASt) (d : Nat) : aalloc Try.prog s d 69 = s.new d 1 [.flat .nilFunc] (.ptr (s.gh.nm d) s.gen 0) := aalloc_of ti69 s d
theorem bx69 (s : ASt) (d : Nat) (x : AVal) : abox Try.prog s d 69 x = (match cellsOf x with | some vs => s.new d 1 vs (.ptr (s.gh.nm d) s.gen 0) | none => none) := abox_of ti69 s d x
theorem ti70 : ti Try.prog 70 = some ⟨1, false, 8, [.flat (.int .u64 0)], .none⟩ := (ti_eq _ _).trans (by kernel_rfl)
theorem al70 (s : ASt) (d : Nat) : aalloc Try.prog s d 70 = s.new d 1 [.flat (.int .u64 0)] (.ptr (s.gh.nm d) s.gen 0) := aalloc_of ti70 s d
theorem bx70 (s : ASt) (d : Nat) (x : AVal) : abox Try.prog s d 70 x = (match cellsOf x with | some vs => s.new d 1 vs (.ptr (s.gh.nm d) s.gen 0) | none => none) := abox_of ti70 s d x
theorem ti71 : ti Try.prog 71 = some ⟨1, false, 8, [.flat (.pointer none)], .none⟩ := (ti_eq _ _).trans (by kernel_rfl)
theorem al71 (s : ASt) (d : Nat) : aalloc Try.prog s d 71 = s.new d 1 [.flat (.pointer none)] (.ptr (s.gh.nm d) s.gen 0) := aalloc_of ti71 s d
theorem bx71 (s : ASt) (d : Nat) (x : AVal) : abox Try.prog s d 71 x = (match cellsOf x with | some vs => s.new d 1 vs (.ptr (s.gh.nm d) s.gen 0) | none => none) := abox_of ti71 s d x
theorem ti72 : ti Try.prog 72 = some ⟨1, false, 8, [.flat .nilFunc], .none⟩ := (ti_eq _ _).trans (by kernel_rfl)
theorem al72 (s : ASt) (d : Nat) : aalloc Try.prog s d 72 = s.new d 1 [.flat .nilFunc] (.ptr (s.gh.nm d) s.gen 0) := aalloc_of ti72 s d
theorem bx72 (s : ASt) (d : Nat) (x : AVal) : abox Try.prog s d 72 x = (match cellsOf x with | some vs => s.new d 1 vs (.ptr (s.gh.nm d) s.gen 0) | none => none) := abox_of ti72 s d x
theorem ti73 : ti Try.prog 73 = some ⟨1, false, 8, [.flat .nilFunc], .none⟩ := (ti_eq _ _).trans (by kernel_rfl)
theorem al73 (s : ASt) (d : Nat) : aalloc Try.prog s d 73 = s.new d 1 [.flat .nilFunc] (.ptr (s.gh.nm d) s.gen 0) := aalloc_of ti73 s d
theorem bx73 (s : ASt) (d : Nat) (x : AVal) : abox Try.prog s d 73 x = (match cellsOf x with | some vs => s.new d 1 vs (.ptr (s.gh.nm d) s.gen 0) | none => none) := abox_of ti73 s d x
theorem ti74 : ti Try.prog 74 = some ⟨1, false, 8, [.flat .nilFunc], .none⟩ := (ti_eq _ _).trans (by kernel_rfl)
theorem al74 (s : ASt) (d : Nat) : aalloc Try.prog s d 74 = s.new d 1 [.flat .nilFunc] (.ptr (s.gh.nm d) s.gen 0) := aalloc_of ti74 s d
theorem bx74 (s : ASt) (d : Nat) (x : AVal) : abox Try.prog s d 74 x = (match cellsOf x with | some vs => s.new d 1 vs (.ptr (s.gh.nm d) s.gen 0) | none => none) := abox_of ti74 s d x
theorem ti75 : ti Try.prog 75 = some ⟨1, false, 8, [.flat .nilFunc], .none⟩ := (ti_eq _ _).trans (by kernel_rfl)
theorem al75 (s : ASt) (d : Nat) : aalloc Try.prog s d 75 = s.new d 1 [.flat .nilFunc] (.ptr (s.gh.nm d) s.gen 0) := aalloc_of ti75 s d
theorem bx75 (s : ASt) (d : Nat) (x : AVal) : abox Try.prog s d 75 x = (match cellsOf x with | some vs => s.new d 1 vs (.ptr (s.gh.nm d) s.gen 0) | none => none) := abox_of ti75 s d x
theorem ti76 : ti Try.prog 76 = some ⟨1, false, 8, [.flat .nilFunc], .none⟩ := (ti_eq _ _).trans (by kernel_rfl)
theorem al76 (s : ASt) (d : Nat) : aalloc Try.prog s d 76 = s.new d 1 [.flat .nilFunc] (.ptr (s.gh.nm d) s.gen 0) := aalloc_of ti76 s d
theorem bx76 (s : ASt) (d : Nat) (x : AVal) : abox Try.prog s d 76 x = (match cellsOf x with | some vs => s.new d 1 vs (.ptr (s.gh.nm d) s.gen 0) | none => none) := abox_of ti76 s d x
theorem ti77 : ti Try.prog 77 = some ⟨1, false, 8, [.flat (.int .i64 0)], .none⟩ := (ti_eq _ _).trans (by kernel_rfl)
theorem al77 (s : ASt) (d : Nat) : aalloc Try.prog s d 77 = s.new d 1 [.flat (.int .i64 0)] (.ptr (s.gh.nm d) s.gen 0) := aalloc_of ti77 s d
theorem bx77 (s : ASt) (d : Nat) (x : AVal) : abox Try.prog s d 77 x = (match cellsOf x with | some vs => s.new d 1 vs (.ptr (s.gh.nm d) s.gen 0) | none => none) := abox_of ti77 s d x
theorem ti79 : ti Try.prog 79 = some ⟨1, false, 8, [.flat .nilFunc], .none⟩ := (ti_eq _ _).trans (by kernel_rfl)
theorem al79 (s : ASt) (d : Nat) : aalloc Try.prog s d 79 = s.new d 1 [.flat .nilFunc] (.ptr (s.gh.nm d) s.gen 0) := aalloc_of ti79 s d
theorem bx79 (s : ASt) (d : Nat) (x : AVal) : abox Try.prog s d 79 x = (match cellsOf x with | some vs => s.new d 1 vs (.ptr (s.gh.nm d) s.gen 0) | none => none) := abox_of ti79 s d x
theorem ti80 : ti Try.prog 80 = some ⟨1, false, 8, [.flat .nilFunc], .none⟩ := (ti_eq _ _).trans (by kernel_rfl)
theorem al80 (s : ASt) (d : Nat) : aalloc Try.prog s d 80 = s.new d 1 [.flat .nilFunc] (.ptr (s.gh.nm d) s.gen 0) := aalloc_of ti80 s d
theorem bx80 (s : ASt) (d : Nat) (x : AVal) : abox Try.prog s d 80 x = (match cellsOf x with | some vs => s.new d 1 vs (.ptr (s.gh.nm d) s.gen 0) | none => none) := abox_of ti80 s d x
theorem ti81 : ti Try.prog 81 = some ⟨1, false, 8, [.flat .nilFunc], .none⟩ := (ti_eq _ _).trans (by kernel_rfl)
theorem al81 (s : ASt) (d : Nat) : aalloc Try.prog s d 81 = s.new d 1 [.flat .nilFunc] (.ptr (s.gh.nm d) s.gen 0) := aalloc_of ti81 s d
theorem bx81 (s : ASt) (d : Nat) (x : AVal) : abox Try.prog s d 81 x = (match cellsOf x with | some vs => s.new d 1 vs (.ptr (s.gh.nm d) s.gen 0) | none => none) := abox_of ti81 s d x
theorem ti82 : ti Try.prog 82 = some ⟨1, false, 8, [.flat .nilFunc], .none⟩ := (ti_eq _ _).trans (by kernel_rfl)
theorem al82 (s : ASt) (d : Nat) : aalloc Try.prog s d 82 = s.new d 1 [.flat .nilFunc] (.ptr (s.gh.nm d) s.gen 0) := aalloc_of ti82 s d
theorem bx82 (s : ASt) (d : Nat) (x : AVal) : abox Try.prog s d 82 x = (match cellsOf x with | some vs => s.new d 1 vs (.ptr (s.gh.nm d) s.gen 0) | none => none) := abox_of ti82 s d x
theorem ti84 : ti Try.prog 84 = some ⟨1, false, 8, [.flat .nilFunc], .none⟩ := (ti_eq _ _).trans (by kernel_rfl)
theorem al84 (s : ASt) (d : Nat) : aalloc Try.prog s d 84 = s.new d 1 [.flat .nilFunc] (.ptr (s.gh.nm d) s.gen 0) := aalloc_of ti84 s d
theorem bx84 (s : ASt) (d : Nat) (x : AVal) : abox Try.prog s d 84 x = (match cellsOf x with | some vs => s.new d 1 vs (.ptr (s.gh.nm d) s.gen 0) | none => none) := abox_of ti84 s d x
theorem ti85 : ti Try.prog 85 = some ⟨1, false, 8, [.flat .nilFunc], .none⟩ := (ti_eq _ _).trans (by kernel_rfl)
theorem al85 (s : ASt) (d : Nat) : aalloc Try.prog s d 85 = s.new d 1 [.flat .nilFunc] (.ptr (s.gh.nm d) s.gen 0) := aalloc_of ti85 s d
theorem bx85 (s : ASt) (d : Nat) (x : AVal) : abox Try.prog s d 85 x = (match cellsOf x with | some vs => s.new d 1 vs (.ptr (s.gh.nm d) s.gen 0) | none => none) := abox_of ti85 s d x
theorem ti86 : ti Try.prog 86 = some ⟨1, false, 4, [.flat (.int .u32 0)], .none⟩ := (ti_eq _ _).trans (by kernel_rfl)
theorem al86 (s : ASt) (d : Nat) : aalloc Try.prog s d 86 = s.new d 1 [.flat (.int .u32 0)] (.ptr (s.gh.nm d) s.gen 0) := aalloc_of ti86 s d
theorem bx86 (s : ASt) (d : Nat) (x : AVal) : abox Try.prog s d 86 x = (match cellsOf x with | some vs => s.new d 1 vs (.ptr (s.gh.nm d) s.gen 0) | none => none) := abox_of ti86 s d x
theorem ti87 : ti Try.prog 87 = some ⟨1, false, 8, [.flat .nilFunc], .none⟩ := (ti_eq _ _).trans (by kernel_rfl)
theorem al87 (s : ASt) (d : Nat) : aalloc Try.prog s d 87 = s.new d 1 [.flat .nilFunc] (.ptr (s.gh.nm d) s.gen 0) := aalloc_of ti87 s d
theorem bx87 (s : ASt) (d : Nat) (x : AVal) : abox Try.prog s d 87 x = (match cellsOf x with | some vs => s.new d 1 vs (.ptr (s.gh.nm d) s.gen 0) | none => none) := abox_of ti87 s d x
theorem ti88 : ti Try.prog 88 = some ⟨1, false, 8, [.flat (.int .u64 0)], .none⟩ := (ti_eq _ _).trans (by kernel_rfl)
theorem al88 (s : ASt) (d : Nat) : aalloc Try.prog s d 88 = s.new d 1 [.flat (.int .u64 0)] (.ptr (s.gh.nm d) s.gen 0) := aalloc_of ti88 s d
theorem bx88 (s : ASt) (d : Nat) (x : AVal) : abox Try.prog s d 88 x = (match cellsOf x with | some vs => s.new d 1 vs (.ptr (s.gh.nm d) s.gen 0) | none => none) := abox_of ti88 s d x
theorem ti89 : ti Try.prog 89 = some ⟨1, false, 8, [.flat .nilFunc], .none⟩ := (ti_eq _ _).trans (by kernel_rfl)
theorem al89 (s : ASt) (d : Nat) : aalloc Try.prog s d 89 = s.new d 1 [.flat .nilFunc] (.ptr (s.gh.nm d) s.gen 0) := aalloc_of ti89 s d
theorem bx89 (s : ASt) (d : Nat) (x : AVal) : abox Try.prog s d 89 x = (match cellsOf x with | some vs => s.new d 1 vs (.ptr (s.gh.nm d) s.gen 0) | none => none) := abox_of ti89 s d x
theorem ti90 : ti Try.prog 90 = some ⟨1, false, 8, [.flat .nilFunc], .none⟩ := (ti_eq _ _).trans (by kernel_rfl)
theorem al90 (s : ASt) (d : Nat) : aalloc Try.prog s d 90 = s.new d 1 [.flat .nilFunc] (.ptr (s.gh.nm d) s.gen 0) := aalloc_of ti90 s d
theorem bx90 (s : ASt) (d : Nat) (x : AVal) : abox Try.prog s d 90 x = (match cellsOf x with | some vs => s.new d 1 vs (.ptr (s.gh.nm d) s.gen 0) | none => none) := abox_of ti90 s d x
theorem ti91 : ti Try.prog 91 = some ⟨1, false, 8, [.flat .nilFunc], .none⟩ := (ti_eq _ _).trans (by kernel_rfl)
theorem al91 (s : ASt) (d : Nat) : aalloc Try.prog s d 91 = s.new d 1 [.flat .nilFunc] (.ptr (s.gh.nm d) s.gen 0) := aalloc_of ti91 s d
theorem bx91 (s : ASt) (d : Nat) (x : AVal) : abox Try.prog s d 91 x = (match cellsOf x with | some vs => s.new d 1 vs (.ptr (s.gh.nm d) s.gen 0) | none => none) := abox_of ti91 s d x
theorem ti92 : ti Try.prog 92 = some ⟨1, false, 8, [.flat (.pointer none)], .none⟩ := (ti_eq _ _).trans (by kernel_rfl)
theorem al92 (s : ASt) (d : Nat) : aalloc Try.prog s d 92 = s.new d 1 [.flat (.pointer none)] (.ptr (s.gh.nm d) s.gen 0) := aalloc_of ti92 s d
theorem bx92 (s : ASt) (d : Nat) (x : AVal) : abox Try.prog s d 92 x = (match cellsOf x with | some vs => s.new d 1 vs (.ptr (s.gh.nm d) s.gen 0) | none => none) := abox_of ti92 s d x
theorem ti93 : ti Try.prog 93 = some ⟨1, false, 8, [.flat .nilFunc], .none⟩ := (ti_eq _ _).trans (by kernel_rfl)
theorem al93 (s : ASt) (d : Nat) : aalloc Try.prog s d 93 = s.new d 1 [.flat .nilFunc] (.ptr (s.gh.nm d) s.gen 0) := aalloc_of ti93 s d
theorem bx93 (s : ASt) (d : Nat) (x : AVal) : abox Try.prog s d 93 x = (match cellsOf x with | some vs => s.new d 1 vs (.ptr (s.gh.nm d) s.gen 0) | none => none) := abox_of ti93 s d x
theorem ti94 : ti Try.prog 94 = some ⟨1, false, 8, [.flat (.pointer none)], .none⟩ := (ti_eq _ _).trans (by kernel_rfl)
theorem al94 (s : ASt) (d : Nat) : aalloc Try.prog s d 94 = s.new d 1 [.flat (.pointer none)] (.ptr (s.gh.nm d) s.gen 0) := aalloc_of ti94 s d
theorem bx94 (s : ASt) (d : Nat) (x : AVal) : abox Try.prog s d 94 x = (match cellsOf x with | some vs => s.new d 1 vs (.ptr (s.gh.nm d) s.gen 0) | none => none) := abox_of ti94 s d x
theorem ti96 : ti Try.prog 96 = some ⟨1, false, 8, [.flat .nilFunc], .none⟩ := (ti_eq _ _).trans (by kernel_rfl)
theorem al96 (s : ASt) (d : Nat) : aalloc Try.prog s d 96 = s.new d 1 [.flat .nilFunc] (.ptr (s.gh.nm d) s.gen 0) := aalloc_of ti96 s d
theorem bx96 (s : ASt) (d : Nat) (x : AVal) : abox Try.prog s d 96 x = (match cellsOf x with | some vs => s.new d 1 vs (.ptr (s.gh.nm d) s.gen 0) | none => none) := abox_of ti96 s d x
theorem ti97 : ti Try.prog 97 = some ⟨1, false, 8, [.flat .nilFunc], .none⟩ := (ti_eq _ _).trans (by kernel_rfl)
theorem al97 (s : ASt) (d : Nat) : aalloc Try.prog s d 97 = s.new d 1 [.flat .nilFunc] (.ptr (s.gh.nm d) s.gen 0) := aalloc_of ti97 s d
theorem bx97 (s : ASt) (d : Nat) (x : AVal) : abox Try.prog s d 97 x = (match cellsOf x with | some vs => s.new d 1 vs (.ptr (s.gh.nm d) s.gen 0) | none => none) := abox_of ti97 s d x
theorem ti100 : ti Try.prog 100 = some ⟨0, true, 0, [], .array 0 16⟩ := (ti_eq _ _).trans (by kernel_rfl)
theorem al100 (s : ASt) (d : Nat) : aalloc Try.prog s d 100 = s.new d 0 [] (.ptr (s.gh.nm d) s.gen 0) := aalloc_of ti100 s d
theorem bx100 (s : ASt) (d : Nat) (x : AVal) : abox Try.prog s d 100 x = (match cellsOf x with | some vs => s.new d 0 vs (.ptr (s.gh.nm d) s.gen 0) | none => none) := abox_of ti100 s d x
theorem ti103 : ti Try.prog 103 = some ⟨1, false, 8, [.flat .nilFunc], .none⟩ := (ti_eq _ _).trans (by kernel_rfl)
theorem al103 (s : ASt) (d : Nat) : aalloc Try.prog s d 103 = s.new d 1 [.flat .nilFunc] (.ptr (s.gh.nm d) s.gen 0) := aalloc_of ti103 s d
theorem bx103 (s : ASt) (d : Nat) (x : AVal) : abox Try.prog s d 103 x = (match cellsOf x with | some vs => s.new d 1 vs (.ptr (s.gh.nm d) s.gen 0) | none => none) := abox_of ti103 s d x
theorem ti106 : ti Try.prog 106 = some ⟨1, false, 8, [.flat .nilFunc], .none⟩ := (ti_eq _ _).trans (by kernel_rfl)
theorem al106 (s : ASt) (d : Nat) : aalloc Try.prog s d 106 = s.new d 1 [.flat .nilFunc] (.ptr (s.gh.nm d) s.gen 0) := aalloc_of ti106 s d
theorem bx106 (s : ASt) (d : Nat) (x : AVal) : abox Try.prog s d 106 x = (match cellsOf x with | some vs => s.new d 1 vs (.ptr (s.gh.nm d) s.gen 0) | none => none) := abox_of ti106 s d x
theorem ti107 : ti Try.prog 107 = some ⟨1, false, 8, [.flat (.pointer none)], .none⟩ := (ti_eq _ _).trans (by kernel_rfl)
theorem al107 (s : ASt) (d : Nat) : aalloc Try.prog s d 107 = s.new d 1 [.flat (.pointer none)] (.ptr (s.gh.nm d) s.gen 0) := aalloc_of ti107 s d
theorem bx107 (s : ASt) (d : Nat) (x : AVal) : abox Try.prog s d 107 x = (match cellsOf x with | some vs => s.new d 1 vs (.ptr (s.gh.nm d) s.gen 0) | none => none) := abox_of ti107 s d x
theorem ti110 : ti Try.prog 110 = some ⟨11, true, 48, [.flat (.int .u64 0), .flat (.int .u64 0), .flat (.int .u32 0), .flat (.int .u8 0), .flat (.int .u8 0), .flat (.int .u8 0), .flat (.int .u8 0), .flat .nilFunc, .flat (.pointer none), .flat (.int .i32 0), .flat (.int .i32 0)], .struct [(0, 12), (1, 12), (2, 86), (3, 104), (4, 5), (5, 5), (6, 105), (7, 106), (8, 107), (9, 108), (10, 109)]⟩ := (ti_eq _ _).trans (by kernel_rfl)
theorem al110 (s : ASt) (d : Nat) : aalloc Try.prog s d 110 = s.new d 11 [.flat (.int .u64 0), .flat (.int .u64 0), .flat (.int .u32 0), .flat (.int .u8 0), .flat (.int .u8 0), .flat (.int .u8 0), .flat (.int .u8 0), .flat .nilFunc, .flat (.pointer none), .flat (.int .i32 0), .flat (.int .i32 0)] (.ptr (s.gh.nm d) s.gen 0) := aalloc_of ti110 s d
theorem bx110 (s : ASt) (d : Nat) (x : AVal) : abox Try.prog s d 110 x = (match cellsOf x with | some vs => s.new d 11 vs (.ptr (s.gh.nm d) s.gen 0) | none => none) := abox_of ti110 s d x
theorem sem_neB (x y : Operand) (p q : Bool) : semS Try.prog (do eqGuard .neq 4 x y (.bool p) (.bool q); binOp .neq 4 (.bool p) (.bool q)) = some (.flat (.bool (!(p == q)))) := sem_neb Try.prog x y p q (by kernel_rfl)
theorem sem_eqB (x y : Operand) (p q : Bool) : semS Try.prog (do eqGuard .eql 4 x y (.bool p) (.bool q); binOp .eql 4 (.bool p) (.bool q)) = some (.flat (.bool (p == q))) := sem_eqb Try.prog x y p q (by kernel_rfl)
theorem tabS : type_of% (And.intro (And.intro (And.intro (And.intro (And.intro (And.intro (And.intro @ti1 (And.intro @al1 @bx1)) (And.intro (And.intro @ti2 @al2) (And.intro @bx2 @ti3))) (And.intro (And.intro (And.intro @al3 @bx3) (And.intro @ti4 @al4)) (And.intro (And.intro @bx4 @ti5) (And.intro @al5 @bx5)))) (And.intro (And.intro (And.intro (And.intro @ti9 @al9) (And.intro @bx9 @ti12)) (And.intro (And.intro @al12 @bx12) (And.intro @ti21 @al21))) (And.intro (And.intro (And.intro @bx21 @ti22) (And.intro @al22 @bx22)) (And.intro (And.intro @ti23 @al23) (And.intro @bx23 @ti24))))) (And.intro (And.intro (And.intro (And.intro (And.intro @al24 @bx24) (And.intro @ti25 @al25)) (And.intro (And.intro @bx25 @ti26) (And.intro @al26 @bx26))) (And.intro (And.intro (And.intro @ti27 @al27) (And.intro @bx27 @ti28)) (And.intro (And.intro @al28 @bx28) (And.intro @ti29 @al29)))) (And.intro (And.intro (And.intro (And.intro @bx29 @ti31) (And.intro @al31 @bx31)) (And.intro (And.intro @ti32 @al32) (And.intro @bx32 @ti34))) (And.intro (And.intro (And.intro @al34 @bx34) (And.intro @ti35 @al35)) (And.intro (And.intro @bx35 @ti36) (And.intro @al36 @bx36)))))) (And.intro (And.intro (And.intro (And.intro (And.intro (And.intro @ti37 @al37) (And.intro @bx37 @ti38)) (And.intro (And.intro @al38 @bx38) (And.intro @ti39 @al39))) (And.intro (And.intro (And.intro @bx39 @ti40) (And.intro @al40 @bx40)) (And.intro (And.intro @ti41 @al41) (And.intro @bx41 @ti42)))) (And.intro (And.intro (And.intro (And.intro @al42 @bx42) (And.intro @ti43 @al43)) (And.intro (And.intro @bx43 @ti44) (And.intro @al44 @bx44))) (And.intro (And.intro (And.intro @ti45 @al45) (And.intro @bx45 @ti46)) (And.intro (And.intro @al46 @bx46) (And.intro @ti47 @al47))))) (And.intro (And.intro (And.intro (And.intro (And.intro @bx47 @ti48) (And.intro @al48 @bx48)) (And.intro (And.intro @ti49 @al49) (And.intro @bx49 @ti50))) (And.intro (And.intro (And.intro @al50 @bx50) (And.intro @ti51 @al51)) (And.intro (And.intro @bx51 @ti52) (And.intro @al52 @bx52)))) (And.intro (And.intro (And.intro (And.intro @ti53 @al53) (And.intro @bx53 @ti54)) (And.intro (And.intro @al54 @bx54) (And.intro @ti55 @al55))) (And.intro (And.intro (And.intro @bx55 @ti56) (And.intro @al56 @bx56)) (And.intro (And.intro @ti57 @al57) (And.intro @bx57 @ti58))))))) (And.intro (And.intro (And.intro (And.intro (And.intro (And.intro @al58 (And.intro @bx58 @ti59)) (And.intro (And.intro @al59 @bx59) (And.intro @ti60 @al60))) (And.intro (And.intro (And.intro @bx60 @ti61) (And.intro @al61 @bx61)) (And.intro (And.intro @ti62 @al62) (And.intro @bx62 @ti63)))) (And.intro (And.intro (And.intro (And.intro @al63 @bx63) (And.intro @ti64 @al64)) (And.intro (And.intro @bx64 @ti65) (And.intro @al65 @bx65))) (And.intro (And.intro (And.intro @ti66 @al66) (And.intro @bx66 @ti67)) (And.intro (And.intro @al67 @bx67) (And.intro @ti68 @al68))))) (And.intro (And.intro (And.intro (And.intro (And.intro @bx68 @ti69) (And.intro @al69 @bx69)) (And.intro (And.intro @ti70 @al70) (And.intro @bx70 @ti71))) (And.intro (And.intro (And.intro @al71 @bx71) (And.intro @ti72 @al72)) (And.intro (And.intro @bx72 @ti73) (And.intro @al73 @bx73)))) (And.intro (And.intro (And.intro (And.intro @ti74 @al74) (And.intro @bx74 @ti75)) (And.intro (And.intro @al75 @bx75) (And.intro @ti76 @al76))) (And.intro (And.intro (And.intro @bx76 @ti77) (And.intro @al77 @bx77)) (And.intro (And.intro @ti79 @al79) (And.intro @bx79 @ti80)))))) (And.intro (And.intro (And.intro (And.intro (And.intro (And.intro @al80 @bx80) (And.intro @ti81 @al81)) (And.intro (And.intro @bx81 @ti82) (And.intro @al82 @bx82))) (And.intro (And.intro (And.intro @ti84 @al84) (And.intro @bx84 @ti85)) (And.intro (And.intro @al85 @bx85) (And.intro @ti86 @al86)))) (And.intro (And.intro (And.intro (And.intro @bx86 @ti87) (And.intro @al87 @bx87)) (And.intro (And.intro @ti88 @al88) (And.intro @bx88 @ti89))) (And.intro (And.intro (And.intro @al89 @bx89) (And.intro @ti90 @al90)) (And.intro (And.intro @bx90 @ti91) (And.intro @al91 @bx91))))) (And.intro (And.intro (And.intro (And.intro (And.intro @ti92 @al92) (And.intro @bx92 @ti93)) (And.intro (And.intro @al93 @bx93) (And.intro @ti94 @al94))) (And.intro (And.intro (And.intro @bx94 @ti96) (And.intro @al96 @bx96)) (And.intro (And.intro @ti97 @al97) (And.intro @bx97 @ti100)))) (And.intro (And.intro (And.intro (And.intro @al100 @bx100) (And.intro @ti103 @al103)) (And.intro (And.intro @bx103 @ti106) (And.intro @al106 @bx106))) (And.intro (And.intro (And.intro @ti107 @al107) (And.intro @bx107 @ti110)) (And.intro (And.intro @al110 @bx110) (And.intro @sem_neB @sem_eqB)))))))) := (And.intro (And.intro (And.intro (And.intro (And.intro (And.intro (And.intro @ti1 (And.intro @al1 @bx1)) (And.intro (And.intro @ti2 @al2) (And.intro @bx2 @ti3))) (And.intro (And.intro (And.intro @al3 @bx3) (And.intro @ti4 @al4)) (And.intro (And.intro @bx4 @ti5) (And.intro @al5 @bx5)))) (And.intro (And.intro (And.intro (And.intro @ti9 @al9) (And.intro @bx9 @ti12)) (And.intro (And.intro @al12 @bx12) (And.intro @ti21 @al21))) (And.intro (And.intro (And.intro @bx21 @ti22) (And.intro @al22 @bx22)) (And.intro (And.intro @ti23 @al23) (And.intro @bx23 @ti24))))) (And.intro (And.intro (And.intro (And.intro (And.intro @al24 @bx24) (And.intro @ti25 @al25)) (And.intro (And.intro @bx25 @ti26) (And.intro @al26 @bx26))) (And.intro (And.intro (And.intro @ti27 @al27) (And.intro @bx27 @ti28)) (And.intro (And.intro @al28 @bx28) (And.intro @ti29 @al29)))) (And.intro (And.intro (And.intro (And.intro @bx29 @ti31) (And.intro @al31 @bx31)) (And.intro (And.intro @ti32 @al32) (And.intro @bx32 @ti34))) (And.intro (And.intro (And.intro @al34 @bx34) (And.intro @ti35 @al35)) (And.intro (And.intro @bx35 @ti36) (And.intro @al36 @bx36)))))) (And.intro (And.intro (And.intro (And.intro (And.intro (And.intro @ti37 @al37) (And.intro @bx37 @ti38)) (And.intro (And.intro @al38 @bx38) (And.intro @ti39 @al39))) (And.intro (And.intro (And.intro @bx39 @ti40) (And.intro @al40 @bx40)) (And.intro (And.intro @ti41 @al41) (And.intro @bx41 @ti42)))) (And.intro (And.intro (And.intro (And.intro @al42 @bx42) (And.intro @ti43 @al43)) (And.intro (And.intro @bx43 @ti44) (And.intro @al44 @bx44))) (And.intro (And.intro (And.intro @ti45 @al45) (And.intro @bx45 @ti46)) (And.intro (And.intro @al46 @bx46) (And.intro @ti47 @al47))))) (And.intro (And.intro (And.intro (And.intro (And.intro @bx47 @ti48) (And.intro @al48 @bx48)) (And.intro (And.intro @ti49 @al49) (And.intro @bx49 @ti50))) (And.intro (And.intro (And.intro @al50 @bx50) (And.intro @ti51 @al51)) (And.intro (And.intro @bx51 @ti52) (And.intro @al52 @bx52)))) (And.intro (And.intro (And.intro (And.intro @ti53 @al53) (And.intro @bx53 @ti54)) (And.intro (And.intro @al54 @bx54) (And.intro @ti55 @al55))) (And.intro (And.intro (And.intro @bx55 @ti56) (And.intro @al56 @bx56)) (And.intro (And.intro @ti57 @al57) (And.intro @bx57 @ti58))))))) (And.intro (And.intro (And.intro (And.intro (And.intro (And.intro @al58 (And.intro @bx58 @ti59)) (And.intro (And.intro @al59 @bx59) (And.intro @ti60 @al60))) (And.intro (And.intro (And.intro @bx60 @ti61) (And.intro @al61 @bx61)) (And.intro (And.intro @ti62 @al62) (And.intro @bx62 @ti63)))) (And.intro (And.intro (And.intro (And.intro @al63 @bx63) (And.intro @ti64 @al64)) (And.intro (And.intro @bx64 @ti65) (And.intro @al65 @bx65))) (And.intro (And.intro (And.intro @ti66 @al66) (And.intro @bx66 @ti67)) (And.intro (And.intro @al67 @bx67) (And.intro @ti68 @al68))))) (And.intro (And.intro (And.intro (And.intro (And.intro @bx68 @ti69) (And.intro @al69 @bx69)) (And.intro (And.intro @ti70 @al70) (And.intro @bx70 @ti71))) (And.intro (And.intro (And.intro @al71 @bx71) (And.intro @ti72 @al72)) (And.intro (And.intro @bx72 @ti73) (And.intro @al73 @bx73)))) (And.intro (And.intro (And.intro (And.intro @ti74 @al74) (And.intro @bx74 @ti75)) (And.intro (And.intro @al75 @bx75) (And.intro @ti76 @al76))) (And.intro (And.intro (And.intro @bx76 @ti77) (And.intro @al77 @bx77)) (And.intro (And.intro @ti79 @al79) (And.intro @bx79 @ti80)))))) (And.intro (And.intro (And.intro (And.intro (And.intro (And.intro @al80 @bx80) (And.intro @ti81 @al81)) (And.intro (And.intro @bx81 @ti82) (And.intro @al82 @bx82))) (And.intro (And.intro (And.intro @ti84 @al84) (And.intro @bx84 @ti85)) (And.intro (And.intro @al85 @bx85) (And.intro @ti86 @al86)))) (And.intro (And.intro (And.intro (And.intro @bx86 @ti87) (And.intro @al87 @bx87)) (And.intro (And.intro @ti88 @al88) (And.intro @bx88 @ti89))) (And.intro (And.intro (And.intro @al89 @bx89) (And.intro @ti90 @al90)) (And.intro (And.intro @bx90 @ti91) (And.intro @al91 @bx91))))) (And.intro (And.intro (And.intro (And.intro (And.intro @ti92 @al92) (And.intro @bx92 @ti93)) (And.intro (And.intro @al93 @bx93) (And.intro @ti94 @al94))) (And.intro (And.intro (And.intro @bx94 @ti96) (And.intro @al96 @bx96)) (And.intro (And.intro @ti97 @al97) (And.intro @bx97 @ti100)))) (And.intro (And.intro (And.intro (And.intro @al100 @bx100) (And.intro @ti103 @al103)) (And.intro (And.intro @bx103 @ti106) (And.intro @al106 @bx106))) (And.intro (And.intro (And.intro @ti107 @al107) (And.intro @bx107 @ti110)) (And.intro (And.intro @al110 @bx110) (And.intro @sem_neB @sem_eqB))))))))
theorem mixed : Try.prog.follows .mixedOrders = true := by kernel_rfl
theorem laidOut : laidOutB Try.prog = true := by kernel_rfl
theorem ownK : ownKnob Try.prog.godebug = none := by kernel_rfl
end Go.Proofs.Ytocbojbgadcpcaa
