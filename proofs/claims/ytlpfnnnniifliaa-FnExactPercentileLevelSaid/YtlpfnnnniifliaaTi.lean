/-
  OWN WORK, printed by program: the types of this seat, as the walk over abstract states asks for them.
-/
import Derived.Test.YtlpfnnnniifliaaChecked
import Derived.Test.YtlpfnnnniifliaaOwnM
namespace Go.Proofs.Ytlpfnnnniifliaa
open Go Go.Own Go.Proofs
instance : GL := ⟨[], by simp⟩
theorem noGlobs (E : Env) : Globs E := fun p hp => by cases hp
theorem aalloc_of {P : Program} {t : TypeId} {i : TI} (h : ti P t = some i) (s : ASt) (d : Nat) : aalloc P s d t = s.new d i.size i.zero (.ptr (s.gh.nm d) s.gen 0) := by unfold aalloc; rw [h]
theorem abox_of {P : Program} {t : TypeId} {i : TI} (h : ti P t = some i) (s : ASt) (d : Nat) (x : AVal) : abox P s d t x = (match cellsOf x with | some vs => s.new d i.size vs (.ptr (s.gh.nm d) s.gen 0) | none => none) := by unfold abox; rw [h]; cases cellsOf x <;> rfl
theorem ti1 : ti Try.prog 1 = some ⟨1, false, 8, [.flat .nilFunc], .none⟩ := (ti_eq _ _).trans (by kernel_rfl)
theorem al1 (s : ASt) (d : Nat) : aalloc Try.prog s d 1 = s.new d 1 [.flat .nilFunc] (.ptr (s.gh.nm d) s.gen 0) := aalloc_of ti1 s d
theorem bx1 (s : ASt) (d : Nat) (x : AVal) : abox Try.prog s d 1 x = (match cellsOf x with | some vs => s.new d 1 vs (.ptr (s.gh.nm d) s.gen 0) | none => none) := abox_of ti1 s d x
theorem ti2 : ti Try.prog 2 = some ⟨1, false, 8, [.flat (.int .i64 0)], .none⟩ := (ti_eq _ _).trans (by kernel_rfl)
theorem al2 (s : ASt) (d : Nat) : aalloc Try.prog s d 2 = s.new d 1 [.flat (.int .i64 0)] (.ptr (s.gh.nm d) s.gen 0) := aalloc_of ti2 s d
theorem bx2 (s : ASt) (d : Nat) (x : AVal) : abox Try.prog s d 2 x = (match cellsOf x with | some vs => s.new d 1 vs (.ptr (s.gh.nm d) s.gen 0) | none => none) := abox_of ti2 s d x
theorem ti3 : ti Try.prog 3 = some ⟨1, false, 8, [.flat (.int .i64 0)], .none⟩ := (ti_eq _ _).trans (by kernel_rfl)
theorem al3 (s : ASt) (d : Nat) : aalloc Try.prog s d 3 = s.new d 1 [.flat (.int .i64 0)] (.ptr (s.gh.nm d) s.gen 0) := aalloc_of ti3 s d
theorem bx3 (s : ASt) (d : Nat) (x : AVal) : abox Try.prog s d 3 x = (match cellsOf x with | some vs => s.new d 1 vs (.ptr (s.gh.nm d) s.gen 0) | none => none) := abox_of ti3 s d x
theorem ti4 : ti Try.prog 4 = some ⟨1, false, 1, [.flat (.bool false)], .none⟩ := (ti_eq _ _).trans (by kernel_rfl)
theorem al4 (s : ASt) (d : Nat) : aalloc Try.prog s d 4 = s.new d 1 [.flat (.bool false)] (.ptr (s.gh.nm d) s.gen 0) := aalloc_of ti4 s d
theorem bx4 (s : ASt) (d : Nat) (x : AVal) : abox Try.prog s d 4 x = (match cellsOf x with | some vs => s.new d 1 vs (.ptr (s.gh.nm d) s.gen 0) | none => none) := abox_of ti4 s d x
theorem ti5 : ti Try.prog 5 = some ⟨1, false, 1, [.flat (.int .u8 0)], .none⟩ := (ti_eq _ _).trans (by kernel_rfl)
theorem al5 (s : ASt) (d : Nat) : aalloc Try.prog s d 5 = s.new d 1 [.flat (.int .u8 0)] (.ptr (s.gh.nm d) s.gen 0) := aalloc_of ti5 s d
theorem bx5 (s : ASt) (d : Nat) (x : AVal) : abox Try.prog s d 5 x = (match cellsOf x with | some vs => s.new d 1 vs (.ptr (s.gh.nm d) s.gen 0) | none => none) := abox_of ti5 s d x
theorem ti9 : ti Try.prog 9 = some ⟨1, false, 16, [.flat (.string ByteArray.empty)], .str⟩ := (ti_eq _ _).trans (by kernel_rfl)
theorem al9 (s : ASt) (d : Nat) : aalloc Try.prog s d 9 = s.new d 1 [.flat (.string ByteArray.empty)] (.ptr (s.gh.nm d) s.gen 0) := aalloc_of ti9 s d
theorem bx9 (s : ASt) (d : Nat) (x : AVal) : abox Try.prog s d 9 x = (match cellsOf x with | some vs => s.new d 1 vs (.ptr (s.gh.nm d) s.gen 0) | none => none) := abox_of ti9 s d x
theorem ti12 : ti Try.prog 12 = some ⟨1, false, 8, [.flat (.int .u64 0)], .none⟩ := (ti_eq _ _).trans (by kernel_rfl)
theorem al12 (s : ASt) (d : Nat) : aalloc Try.prog s d 12 = s.new d 1 [.flat (.int .u64 0)] (.ptr (s.gh.nm d) s.gen 0) := aalloc_of ti12 s d
theorem bx12 (s : ASt) (d : Nat) (x : AVal) : abox Try.prog s d 12 x = (match cellsOf x with | some vs => s.new d 1 vs (.ptr (s.gh.nm d) s.gen 0) | none => none) := abox_of ti12 s d x
theorem ti21 : ti Try.prog 21 = some ⟨1, false, 4, [.flat (.int .i32 0)], .none⟩ := (ti_eq _ _).trans (by kernel_rfl)
theorem al21 (s : ASt) (d : Nat) : aalloc Try.prog s d 21 = s.new d 1 [.flat (.int .i32 0)] (.ptr (s.gh.nm d) s.gen 0) := aalloc_of ti21 s d
theorem bx21 (s : ASt) (d : Nat) (x : AVal) : abox Try.prog s d 21 x = (match cellsOf x with | some vs => s.new d 1 vs (.ptr (s.gh.nm d) s.gen 0) | none => none) := abox_of ti21 s d x
theorem ti22 : ti Try.prog 22 = some ⟨1, false, 24, [.nl], .slice 2⟩ := (ti_eq _ _).trans (by kernel_rfl)
theorem al22 (s : ASt) (d : Nat) : aalloc Try.prog s d 22 = s.new d 1 [.nl] (.ptr (s.gh.nm d) s.gen 0) := aalloc_of ti22 s d
theorem bx22 (s : ASt) (d : Nat) (x : AVal) : abox Try.prog s d 22 x = (match cellsOf x with | some vs => s.new d 1 vs (.ptr (s.gh.nm d) s.gen 0) | none => none) := abox_of ti22 s d x
theorem ti23 : ti Try.prog 23 = some ⟨5, true, 72, [.flat (.int .i64 0), .flat (.int .i64 0), .flat (.int .i64 0), .nl, .nl], .struct [(0, 2), (1, 2), (2, 2), (3, 22), (4, 22)]⟩ := (ti_eq _ _).trans (by kernel_rfl)
theorem al23 (s : ASt) (d : Nat) : aalloc Try.prog s d 23 = s.new d 5 [.flat (.int .i64 0), .flat (.int .i64 0), .flat (.int .i64 0), .nl, .nl] (.ptr (s.gh.nm d) s.gen 0) := aalloc_of ti23 s d
theorem bx23 (s : ASt) (d : Nat) (x : AVal) : abox Try.prog s d 23 x = (match cellsOf x with | some vs => s.new d 5 vs (.ptr (s.gh.nm d) s.gen 0) | none => none) := abox_of ti23 s d x
theorem ti24 : ti Try.prog 24 = some ⟨5, true, 72, [.flat (.int .i64 0), .flat (.int .i64 0), .flat (.int .i64 0), .nl, .nl], .struct [(0, 2), (1, 2), (2, 2), (3, 22), (4, 22)]⟩ := (ti_eq _ _).trans (by kernel_rfl)
theorem al24 (s : ASt) (d : Nat) : aalloc Try.prog s d 24 = s.new d 5 [.flat (.int .i64 0), .flat (.int .i64 0), .flat (.int .i64 0), .nl, .nl] (.ptr (s.gh.nm d) s.gen 0) := aalloc_of ti24 s d
theorem bx24 (s : ASt) (d : Nat) (x : AVal) : abox Try.prog s d 24 x = (match cellsOf x with | some vs => s.new d 5 vs (.ptr (s.gh.nm d) s.gen 0) | none => none) := abox_of ti24 s d x
theorem ti25 : ti Try.prog 25 = some ⟨1, false, 8, [.flat .nilFunc], .none⟩ := (ti_eq _ _).trans (by kernel_rfl)
theorem al25 (s : ASt) (d : Nat) : aalloc Try.prog s d 25 = s.new d 1 [.flat .nilFunc] (.ptr (s.gh.nm d) s.gen 0) := aalloc_of ti25 s d
theorem bx25 (s : ASt) (d : Nat) (x : AVal) : abox Try.prog s d 25 x = (match cellsOf x with | some vs => s.new d 1 vs (.ptr (s.gh.nm d) s.gen 0) | none => none) := abox_of ti25 s d x
theorem ti27 : ti Try.prog 27 = some ⟨1, false, 8, [.flat .nilFunc], .none⟩ := (ti_eq _ _).trans (by kernel_rfl)
theorem al27 (s : ASt) (d : Nat) : aalloc Try.prog s d 27 = s.new d 1 [.flat .nilFunc] (.ptr (s.gh.nm d) s.gen 0) := aalloc_of ti27 s d
theorem bx27 (s : ASt) (d : Nat) (x : AVal) : abox Try.prog s d 27 x = (match cellsOf x with | some vs => s.new d 1 vs (.ptr (s.gh.nm d) s.gen 0) | none => none) := abox_of ti27 s d x
theorem ti28 : ti Try.prog 28 = some ⟨5, true, 72, [.flat (.int .i64 0), .flat (.int .i64 0), .flat (.int .i64 0), .nl, .nl], .struct [(0, 2), (1, 2), (2, 2), (3, 22), (4, 22)]⟩ := (ti_eq _ _).trans (by kernel_rfl)
theorem al28 (s : ASt) (d : Nat) : aalloc Try.prog s d 28 = s.new d 5 [.flat (.int .i64 0), .flat (.int .i64 0), .flat (.int .i64 0), .nl, .nl] (.ptr (s.gh.nm d) s.gen 0) := aalloc_of ti28 s d
theorem bx28 (s : ASt) (d : Nat) (x : AVal) : abox Try.prog s d 28 x = (match cellsOf x with | some vs => s.new d 5 vs (.ptr (s.gh.nm d) s.gen 0) | none => none) := abox_of ti28 s d x
theorem ti29 : ti Try.prog 29 = some ⟨1, false, 8, [.flat .nilFunc], .none⟩ := (ti_eq _ _).trans (by kernel_rfl)
theorem al29 (s : ASt) (d : Nat) : aalloc Try.prog s d 29 = s.new d 1 [.flat .nilFunc] (.ptr (s.gh.nm d) s.gen 0) := aalloc_of ti29 s d
theorem bx29 (s : ASt) (d : Nat) (x : AVal) : abox Try.prog s d 29 x = (match cellsOf x with | some vs => s.new d 1 vs (.ptr (s.gh.nm d) s.gen 0) | none => none) := abox_of ti29 s d x
theorem ti30 : ti Try.prog 30 = some ⟨1, false, 8, [.flat .nilFunc], .none⟩ := (ti_eq _ _).trans (by kernel_rfl)
theorem al30 (s : ASt) (d : Nat) : aalloc Try.prog s d 30 = s.new d 1 [.flat .nilFunc] (.ptr (s.gh.nm d) s.gen 0) := aalloc_of ti30 s d
theorem bx30 (s : ASt) (d : Nat) (x : AVal) : abox Try.prog s d 30 x = (match cellsOf x with | some vs => s.new d 1 vs (.ptr (s.gh.nm d) s.gen 0) | none => none) := abox_of ti30 s d x
theorem ti31 : ti Try.prog 31 = some ⟨1, false, 8, [.flat .nilFunc], .none⟩ := (ti_eq _ _).trans (by kernel_rfl)
theorem al31 (s : ASt) (d : Nat) : aalloc Try.prog s d 31 = s.new d 1 [.flat .nilFunc] (.ptr (s.gh.nm d) s.gen 0) := aalloc_of ti31 s d
theorem bx31 (s : ASt) (d : Nat) (x : AVal) : abox Try.prog s d 31 x = (match cellsOf x with | some vs => s.new d 1 vs (.ptr (s.gh.nm d) s.gen 0) | none => none) := abox_of ti31 s d x
theorem ti32 : ti Try.prog 32 = some ⟨1, false, 24, [.nl], .slice 22⟩ := (ti_eq _ _).trans (by kernel_rfl)
theorem al32 (s : ASt) (d : Nat) : aalloc Try.prog s d 32 = s.new d 1 [.nl] (.ptr (s.gh.nm d) s.gen 0) := aalloc_of ti32 s d
theorem bx32 (s : ASt) (d : Nat) (x : AVal) : abox Try.prog s d 32 x = (match cellsOf x with | some vs => s.new d 1 vs (.ptr (s.gh.nm d) s.gen 0) | none => none) := abox_of ti32 s d x
theorem ti34 : ti Try.prog 34 = some ⟨1, false, 8, [.flat .nilFunc], .none⟩ := (ti_eq _ _).trans (by kernel_rfl)
theorem al34 (s : ASt) (d : Nat) : aalloc Try.prog s d 34 = s.new d 1 [.flat .nilFunc] (.ptr (s.gh.nm d) s.gen 0) := aalloc_of ti34 s d
theorem bx34 (s : ASt) (d : Nat) (x : AVal) : abox Try.prog s d 34 x = (match cellsOf x with | some vs => s.new d 1 vs (.ptr (s.gh.nm d) s.gen 0) | none => none) := abox_of ti34 s d x
theorem ti35 : ti Try.prog 35 = some ⟨1, false, 8, [.flat .nilFunc], .none⟩ := (ti_eq _ _).trans (by kernel_rfl)
theorem al35 (s : ASt) (d : Nat) : aalloc Try.prog s d 35 = s.new d 1 [.flat .nilFunc] (.ptr (s.gh.nm d) s.gen 0) := aalloc_of ti35 s d
theorem bx35 (s : ASt) (d : Nat) (x : AVal) : abox Try.prog s d 35 x = (match cellsOf x with | some vs => s.new d 1 vs (.ptr (s.gh.nm d) s.gen 0) | none => none) := abox_of ti35 s d x
theorem ti36 : ti Try.prog 36 = some ⟨1, false, 8, [.flat .nilFunc], .none⟩ := (ti_eq _ _).trans (by kernel_rfl)
theorem al36 (s : ASt) (d : Nat) : aalloc Try.prog s d 36 = s.new d 1 [.flat .nilFunc] (.ptr (s.gh.nm d) s.gen 0) := aalloc_of ti36 s d
theorem bx36 (s : ASt) (d : Nat) (x : AVal) : abox Try.prog s d 36 x = (match cellsOf x with | some vs => s.new d 1 vs (.ptr (s.gh.nm d) s.gen 0) | none => none) := abox_of ti36 s d x
theorem ti37 : ti Try.prog 37 = some ⟨1, false, 8, [.flat .nilFunc], .none⟩ := (ti_eq _ _).trans (by kernel_rfl)
theorem al37 (s : ASt) (d : Nat) : aalloc Try.prog s d 37 = s.new d 1 [.flat .nilFunc] (.ptr (s.gh.nm d) s.gen 0) := aalloc_of ti37 s d
theorem bx37 (s : ASt) (d : Nat) (x : AVal) : abox Try.prog s d 37 x = (match cellsOf x with | some vs => s.new d 1 vs (.ptr (s.gh.nm d) s.gen 0) | none => none) := abox_of ti37 s d x
theorem ti38 : ti Try.prog 38 = some ⟨1, false, 8, [.flat .nilFunc], .none⟩ := (ti_eq _ _).trans (by kernel_rfl)
theorem al38 (s : ASt) (d : Nat) : aalloc Try.prog s d 38 = s.new d 1 [.flat .nilFunc] (.ptr (s.gh.nm d) s.gen 0) := aalloc_of ti38 s d
theorem bx38 (s : ASt) (d : Nat) (x : AVal) : abox Try.prog s d 38 x = (match cellsOf x with | some vs => s.new d 1 vs (.ptr (s.gh.nm d) s.gen 0) | none => none) := abox_of ti38 s d x
theorem ti39 : ti Try.prog 39 = some ⟨1, false, 8, [.flat .nilFunc], .none⟩ := (ti_eq _ _).trans (by kernel_rfl)
theorem al39 (s : ASt) (d : Nat) : aalloc Try.prog s d 39 = s.new d 1 [.flat .nilFunc] (.ptr (s.gh.nm d) s.gen 0) := aalloc_of ti39 s d
theorem bx39 (s : ASt) (d : Nat) (x : AVal) : abox Try.prog s d 39 x = (match cellsOf x with | some vs => s.new d 1 vs (.ptr (s.gh.nm d) s.gen 0) | none => none) := abox_of ti39 s d x
theorem ti40 : ti Try.prog 40 = some ⟨1, false, 8, [.flat .nilFunc], .none⟩ := (ti_eq _ _).trans (by kernel_rfl)
theorem al40 (s : ASt) (d : Nat) : aalloc Try.prog s d 40 = s.new d 1 [.flat .nilFunc] (.ptr (s.gh.nm d) s.gen 0) := aalloc_of ti40 s d
theorem bx40 (s : ASt) (d : Nat) (x : AVal) : abox Try.prog s d 40 x = (match cellsOf x with | some vs => s.new d 1 vs (.ptr (s.gh.nm d) s.gen 0) | none => none) := abox_of ti40 s d x
theorem ti41 : ti Try.prog 41 = some ⟨1, false, 8, [.flat (.pointer none)], .none⟩ := (ti_eq _ _).trans (by kernel_rfl)
theorem al41 (s : ASt) (d : Nat) : aalloc Try.prog s d 41 = s.new d 1 [.flat (.pointer none)] (.ptr (s.gh.nm d) s.gen 0) := aalloc_of ti41 s d
theorem bx41 (s : ASt) (d : Nat) (x : AVal) : abox Try.prog s d 41 x = (match cellsOf x with | some vs => s.new d 1 vs (.ptr (s.gh.nm d) s.gen 0) | none => none) := abox_of ti41 s d x
theorem ti42 : ti Try.prog 42 = some ⟨1, false, 8, [.flat .nilFunc], .none⟩ := (ti_eq _ _).trans (by kernel_rfl)
theorem al42 (s : ASt) (d : Nat) : aalloc Try.prog s d 42 = s.new d 1 [.flat .nilFunc] (.ptr (s.gh.nm d) s.gen 0) := aalloc_of ti42 s d
theorem bx42 (s : ASt) (d : Nat) (x : AVal) : abox Try.prog s d 42 x = (match cellsOf x with | some vs => s.new d 1 vs (.ptr (s.gh.nm d) s.gen 0) | none => none) := abox_of ti42 s d x
theorem ti43 : ti Try.prog 43 = some ⟨1, false, 8, [.flat .nilFunc], .none⟩ := (ti_eq _ _).trans (by kernel_rfl)
theorem al43 (s : ASt) (d : Nat) : aalloc Try.prog s d 43 = s.new d 1 [.flat .nilFunc] (.ptr (s.gh.nm d) s.gen 0) := aalloc_of ti43 s d
theorem bx43 (s : ASt) (d : Nat) (x : AVal) : abox Try.prog s d 43 x = (match cellsOf x with | some vs => s.new d 1 vs (.ptr (s.gh.nm d) s.gen 0) | none => none) := abox_of ti43 s d x
theorem ti44 : ti Try.prog 44 = some ⟨1, false, 8, [.flat .nilFunc], .none⟩ := (ti_eq _ _).trans (by kernel_rfl)
theorem al44 (s : ASt) (d : Nat) : aalloc Try.prog s d 44 = s.new d 1 [.flat .nilFunc] (.ptr (s.gh.nm d) s.gen 0) := aalloc_of ti44 s d
theorem bx44 (s : ASt) (d : Nat) (x : AVal) : abox Try.prog s d 44 x = (match cellsOf x with | some vs => s.new d 1 vs (.ptr (s.gh.nm d) s.gen 0) | none => none) := abox_of ti44 s d x
theorem ti45 : ti Try.prog 45 = some ⟨1, false, 8, [.flat .nilFunc], .none⟩ := (ti_eq _ _).trans (by kernel_rfl)
theorem al45 (s : ASt) (d : Nat) : aalloc Try.prog s d 45 = s.new d 1 [.flat .nilFunc] (.ptr (s.gh.nm d) s.gen 0) := aalloc_of ti45 s d
theorem bx45 (s : ASt) (d : Nat) (x : AVal) : abox Try.prog s d 45 x = (match cellsOf x with | some vs => s.new d 1 vs (.ptr (s.gh.nm d) s.gen 0) | none => none) := abox_of ti45 s d x
theorem ti46 : ti Try.prog 46 = some ⟨1, false, 8, [.flat .nilFunc], .none⟩ := (ti_eq _ _).trans (by kernel_rfl)
theorem al46 (s : ASt) (d : Nat) : aalloc Try.prog s d 46 = s.new d 1 [.flat .nilFunc] (.ptr (s.gh.nm d) s.gen 0) := aalloc_of ti46 s d
theorem bx46 (s : ASt) (d : Nat) (x : AVal) : abox Try.prog s d 46 x = (match cellsOf x with | some vs => s.new d 1 vs (.ptr (s.gh.nm d) s.gen 0) | none => none) := abox_of ti46 s d x
theorem ti47 : ti Try.prog 47 = some ⟨1, false, 24, [.nl], .slice 3⟩ := (ti_eq _ _).trans (by kernel_rfl)
theorem al47 (s : ASt) (d : Nat) : aalloc Try.prog s d 47 = s.new d 1 [.nl] (.ptr (s.gh.nm d) s.gen 0) := aalloc_of ti47 s d
theorem bx47 (s : ASt) (d : Nat) (x : AVal) : abox Try.prog s d 47 x = (match cellsOf x with | some vs => s.new d 1 vs (.ptr (s.gh.nm d) s.gen 0) | none => none) := abox_of ti47 s d x
theorem ti48 : ti Try.prog 48 = some ⟨1, false, 8, [.flat .nilFunc], .none⟩ := (ti_eq _ _).trans (by kernel_rfl)
theorem al48 (s : ASt) (d : Nat) : aalloc Try.prog s d 48 = s.new d 1 [.flat .nilFunc] (.ptr (s.gh.nm d) s.gen 0) := aalloc_of ti48 s d
theorem bx48 (s : ASt) (d : Nat) (x : AVal) : abox Try.prog s d 48 x = (match cellsOf x with | some vs => s.new d 1 vs (.ptr (s.gh.nm d) s.gen 0) | none => none) := abox_of ti48 s d x
theorem ti49 : ti Try.prog 49 = some ⟨1, false, 8, [.flat .nilFunc], .none⟩ := (ti_eq _ _).trans (by kernel_rfl)
theorem al49 (s : ASt) (d : Nat) : aalloc Try.prog s d 49 = s.new d 1 [.flat .nilFunc] (.ptr (s.gh.nm d) s.gen 0) := aalloc_of ti49 s d
theorem bx49 (s : ASt) (d : Nat) (x : AVal) : abox Try.prog s d 49 x = (match cellsOf x with | some vs => s.new d 1 vs (.ptr (s.gh.nm d) s.gen 0) | none => none) := abox_of ti49 s d x
theorem ti50 : ti Try.prog 50 = some ⟨1, false, 8, [.flat .nilFunc], .none⟩ := (ti_eq _ _).trans (by kernel_rfl)
theorem al50 (s : ASt) (d : Nat) : aalloc Try.prog s d 50 = s.new d 1 [.flat .nilFunc] (.ptr (s.gh.nm d) s.gen 0) := aalloc_of ti50 s d
theorem bx50 (s : ASt) (d : Nat) (x : AVal) : abox Try.prog s d 50 x = (match cellsOf x with | some vs => s.new d 1 vs (.ptr (s.gh.nm d) s.gen 0) | none => none) := abox_of ti50 s d x
theorem ti51 : ti Try.prog 51 = some ⟨1, false, 8, [.flat .nilFunc], .none⟩ := (ti_eq _ _).trans (by kernel_rfl)
theorem al51 (s : ASt) (d : Nat) : aalloc Try.prog s d 51 = s.new d 1 [.flat .nilFunc] (.ptr (s.gh.nm d) s.gen 0) := aalloc_of ti51 s d
theorem bx51 (s : ASt) (d : Nat) (x : AVal) : abox Try.prog s d 51 x = (match cellsOf x with | some vs => s.new d 1 vs (.ptr (s.gh.nm d) s.gen 0) | none => none) := abox_of ti51 s d x
theorem ti52 : ti Try.prog 52 = some ⟨1, false, 8, [.flat .nilFunc], .none⟩ := (ti_eq _ _).trans (by kernel_rfl)
theorem al52 (s : ASt) (d : Nat) : aalloc Try.prog s d 52 = s.new d 1 [.flat .nilFunc] (.ptr (s.gh.nm d) s.gen 0) := aalloc_of ti52 s d
theorem bx52 (s : ASt) (d : Nat) (x : AVal) : abox Try.prog s d 52 x = (match cellsOf x with | some vs => s.new d 1 vs (.ptr (s.gh.nm d) s.gen 0) | none => none) := abox_of ti52 s d x
theorem ti53 : ti Try.prog 53 = some ⟨1, false, 8, [.flat .nilFunc], .none⟩ := (ti_eq _ _).trans (by kernel_rfl)
theorem al53 (s : ASt) (d : Nat) : aalloc Try.prog s d 53 = s.new d 1 [.flat .nilFunc] (.ptr (s.gh.nm d) s.gen 0) := aalloc_of ti53 s d
theorem bx53 (s : ASt) (d : Nat) (x : AVal) : abox Try.prog s d 53 x = (match cellsOf x with | some vs => s.new d 1 vs (.ptr (s.gh.nm d) s.gen 0) | none => none) := abox_of ti53 s d x
theorem ti54 : ti Try.prog 54 = some ⟨1, false, 8, [.flat .nilFunc], .none⟩ := (ti_eq _ _).trans (by kernel_rfl)
theorem al54 (s : ASt) (d : Nat) : aalloc Try.prog s d 54 = s.new d 1 [.flat .nilFunc] (.ptr (s.gh.nm d) s.gen 0) := aalloc_of ti54 s d
theorem bx54 (s : ASt) (d : Nat) (x : AVal) : abox Try.prog s d 54 x = (match cellsOf x with | some vs => s.new d 1 vs (.ptr (s.gh.nm d) s.gen 0) | none => none) := abox_of ti54 s d x
theorem ti55 : ti Try.prog 55 = some ⟨1, false, 8, [.flat .nilFunc], .none⟩ := (ti_eq _ _).trans (by kernel_rfl)
theorem al55 (s : ASt) (d : Nat) : aalloc Try.prog s d 55 = s.new d 1 [.flat .nilFunc] (.ptr (s.gh.nm d) s.gen 0) := aalloc_of ti55 s d
theorem bx55 (s : ASt) (d : Nat) (x : AVal) : abox Try.prog s d 55 x = (match cellsOf x with | some vs => s.new d 1 vs (.ptr (s.gh.nm d) s.gen 0) | none => none) := abox_of ti55 s d x
theorem ti56 : ti Try.prog 56 = some ⟨1, false, 8, [.flat .nilFunc], .none⟩ := (ti_eq _ _).trans (by kernel_rfl)
theorem al56 (s : ASt) (d : Nat) : aalloc Try.prog s d 56 = s.new d 1 [.flat .nilFunc] (.ptr (s.gh.nm d) s.gen 0) := aalloc_of ti56 s d
theorem bx56 (s : ASt) (d : Nat) (x : AVal) : abox Try.prog s d 56 x = (match cellsOf x with | some vs => s.new d 1 vs (.ptr (s.gh.nm d) s.gen 0) | none => none) := abox_of ti56 s d x
theorem ti57 : ti Try.prog 57 = some ⟨1, false, 8, [.flat .nilFunc], .none⟩ := (ti_eq _ _).trans (by kernel_rfl)
theorem al57 (s : ASt) (d : Nat) : aalloc Try.prog s d 57 = s.new d 1 [.flat .nilFunc] (.ptr (s.gh.nm d) s.gen 0) := aalloc_of ti57 s d
theorem bx57 (s : ASt) (d : Nat) (x : AVal) : abox Try.prog s d 57 x = (match cellsOf x with | some vs => s.new d 1 vs (.ptr (s.gh.nm d) s.gen 0) | none => none) := abox_of ti57 s d x
theorem ti58 : ti Try.prog 58 = some ⟨1, false, 8, [.flat (.int .u64 0)], .none⟩ := (ti_eq _ _).trans (by kernel_rfl)
theorem al58 (s : ASt) (d : Nat) : aalloc Try.prog s d 58 = s.new d 1 [.flat (.int .u64 0)] (.ptr (s.gh.nm d) s.gen 0) := aalloc_of ti58 s d
theorem bx58 (s : ASt) (d : Nat) (x : AVal) : abox Try.prog s d 58 x = (match cellsOf x with | some vs => s.new d 1 vs (.ptr (s.gh.nm d) s.gen 0) | none => none) := abox_of ti58 s d x
theorem ti59 : ti Try.prog 59 = some ⟨1, false, 8, [.flat .nilFunc], .none⟩ := (ti_eq _ _).trans (by kernel_rfl)
theorem al59 (s : ASt) (d : Nat) : aalloc Try.prog s d 59 = s.new d 1 [.flat .nilFunc] (.ptr (s.gh.nm d) s.gen 0) := aalloc_of ti59 s d
theorem bx59 (s : ASt) (d : Nat) (x : AVal) : abox Try.prog s d 59 x = (match cellsOf x with | some vs => s.new d 1 vs (.ptr (s.gh.nm d) s.gen 0) | none => none) := abox_of ti59 s d x
theorem ti60 : ti Try.prog 60 = some ⟨1, false, 8, [.flat .nilFunc], .none⟩ := (ti_eq _ _).trans (by kernel_rfl)
theorem al60 (s : ASt) (d : Nat) : aalloc Try.prog s d 60 = s.new d 1 [.flat .nilFunc] (.ptr (s.gh.nm d) s.gen 0) := aalloc_of ti60 s d
theorem bx60 (s : ASt) (d : Nat) (x : AVal) : abox Try.prog s d 60 x = (match cellsOf x with | some vs => s.new d 1 vs (.ptr (s.gh.nm d) s.gen 0) | none => none) := abox_of ti60 s d x
theorem ti61 : ti Try.prog 61 = some ⟨1, false, 8, [.flat .nilFunc], .none⟩ := (ti_eq _ _).trans (by kernel_rfl)
theorem al61 (s : ASt) (d : Nat) : aalloc Try.prog s d 61 = s.new d 1 [.flat .nilFunc] (.ptr (s.gh.nm d) s.gen 0) := aalloc_of ti61 s d
theorem bx61 (s : ASt) (d : Nat) (x : AVal) : abox Try.prog s d 61 x = (match cellsOf x with | some vs => s.new d 1 vs (.ptr (s.gh.nm d) s.gen 0) | none => none) := abox_of ti61 s d x
theorem ti62 : ti Try.prog 62 = some ⟨1, false, 8, [.flat .nilFunc], .none⟩ := (ti_eq _ _).trans (by kernel_rfl)
theorem al62 (s : ASt) (d : Nat) : aalloc Try.prog s d 62 = s.new d 1 [.flat .nilFunc] (.ptr (s.gh.nm d) s.gen 0) := aalloc_of ti62 s d
theorem bx62 (s : ASt) (d : Nat) (x : AVal) : abox Try.prog s d 62 x = (match cellsOf x with | some vs => s.new d 1 vs (.ptr (s.gh.nm d) s.gen 0) | none => none) := abox_of ti62 s d x
theorem ti63 : ti Try.prog 63 = some ⟨1, false, 8, [.flat (.int .i64 0)], .none⟩ := (ti_eq _ _).trans (by kernel_rfl)
theorem al63 (s : ASt) (d : Nat) : aalloc Try.prog s d 63 = s.new d 1 [.flat (.int .i64 0)] (.ptr (s.gh.nm d) s.gen 0) := aalloc_of ti63 s d
theorem bx63 (s : ASt) (d : Nat) (x : AVal) : abox Try.prog s d 63 x = (match cellsOf x with | some vs => s.new d 1 vs (.ptr (s.gh.nm d) s.gen 0) | none => none) := abox_of ti63 s d x
theorem ti65 : ti Try.prog 65 = some ⟨1, false, 8, [.flat .nilFunc], .none⟩ := (ti_eq _ _).trans (by kernel_rfl)
theorem al65 (s : ASt) (d : Nat) : aalloc Try.prog s d 65 = s.new d 1 [.flat .nilFunc] (.ptr (s.gh.nm d) s.gen 0) := aalloc_of ti65 s d
theorem bx65 (s : ASt) (d : Nat) (x : AVal) : abox Try.prog s d 65 x = (match cellsOf x with | some vs => s.new d 1 vs (.ptr (s.gh.nm d) s.gen 0) | none => none) := abox_of ti65 s d x
theorem ti66 : ti Try.prog 66 = some ⟨1, false, 8, [.flat .nilFunc], .none⟩ := (ti_eq _ _).trans (by kernel_rfl)
theorem al66 (s : ASt) (d : Nat) : aalloc Try.prog s d 66 = s.new d 1 [.flat .nilFunc] (.ptr (s.gh.nm d) s.gen 0) := aalloc_of ti66 s d
theorem bx66 (s : ASt) (d : Nat) (x : AVal) : abox Try.prog s d 66 x = (match cellsOf x with | some vs => s.new d 1 vs (.ptr (s.gh.nm d) s.gen 0) | none => none) := abox_of ti66 s d x
theorem ti67 : ti Try.prog 67 = some ⟨1, false, 8, [.flat .nilFunc], .none⟩ := (ti_eq _ _).trans (by kernel_rfl)
theorem al67 (s : ASt) (d : Nat) : aalloc Try.prog s d 67 = s.new d 1 [.flat .nilFunc] (.ptr (s.gh.nm d) s.gen 0) := aalloc_of ti67 s d
theorem bx67 (s : ASt) (d : Nat) (x : AVal) : abox Try.prog s d 67 x = (match cellsOf x with | some vs => s.new d 1 vs (.ptr (s.gh.nm d) s.gen 0) | none => none) := abox_of ti67 s d x
theorem ti68 : ti Try.prog 68 = some ⟨1, false, 8, [.flat .nilFunc], .none⟩ := (ti_eq _ _).trans (by kernel_rfl)
theorem al68 (s : ASt) (d : Nat) : aalloc Try.prog s d 68 = s.new d 1 [.flat .nilFunc] (.ptr (s.gh.nm d) s.gen 0) := aalloc_of ti68 s d
theorem bx68 (s : ASt) (d : Nat) (x : AVal) : abox Try.prog s d 68 x = (match cellsOf x with | some vs => s.new d 1 vs (.ptr (s.gh.nm d) s.gen 0) | none => none) := abox_of ti68 s d x
theorem ti70 : ti Try.prog 70 = some ⟨1, false, 8, [.flat .nilFunc], .none⟩ := (ti_eq _ _).trans (by kernel_rfl)
theorem al70 (s : ASt) (d : Nat) : aalloc Try.prog s d 70 = s.new d 1 [.flat .nilFunc] (.ptr (s.gh.nm d) s.gen 0) := aalloc_of ti70 s d
theorem bx70 (s : ASt) (d : Nat) (x : AVal) : abox Try.prog s d 70 x = (match cellsOf x with | some vs => s.new d 1 vs (.ptr (s.gh.nm d) s.gen 0) | none => none) := abox_of ti70 s d x
theorem ti71 : ti Try.prog 71 = some ⟨1, false, 8, [.flat .nilFunc], .none⟩ := (ti_eq _ _).trans (by kernel_rfl)
theorem al71 (s : ASt) (d : Nat) : aalloc Try.prog s d 71 = s.new d 1 [.flat .nilFunc] (.ptr (s.gh.nm d) s.gen 0) := aalloc_of ti71 s d
theorem bx71 (s : ASt) (d : Nat) (x : AVal) : abox Try.prog s d 71 x = (match cellsOf x with | some vs => s.new d 1 vs (.ptr (s.gh.nm d) s.gen 0) | none => none) := abox_of ti71 s d x
theorem ti72 : ti Try.prog 72 = some ⟨1, false, 4, [.flat (.int .u32 0)], .none⟩ := (ti_eq _ _).trans (by kernel_rfl)
theorem al72 (s : ASt) (d : Nat) : aalloc Try.prog s d 72 = s.new d 1 [.flat (.int .u32 0)] (.ptr (s.gh.nm d) s.gen 0) := aalloc_of ti72 s d
theorem bx72 (s : ASt) (d : Nat) (x : AVal) : abox Try.prog s d 72 x = (match cellsOf x with | some vs => s.new d 1 vs (.ptr (s.gh.nm d) s.gen 0) | none => none) := abox_of ti72 s d x
theorem ti73 : ti Try.prog 73 = some ⟨1, false, 8, [.flat .nilFunc], .none⟩ := (ti_eq _ _).trans (by kernel_rfl)
theorem al73 (s : ASt) (d : Nat) : aalloc Try.prog s d 73 = s.new d 1 [.flat .nilFunc] (.ptr (s.gh.nm d) s.gen 0) := aalloc_of ti73 s d
theorem bx73 (s : ASt) (d : Nat) (x : AVal) : abox Try.prog s d 73 x = (match cellsOf x with | some vs => s.new d 1 vs (.ptr (s.gh.nm d) s.gen 0) | none => none) := abox_of ti73 s d x
theorem ti74 : ti Try.prog 74 = some ⟨1, false, 8, [.flat (.int .u64 0)], .none⟩ := (ti_eq _ _).trans (by kernel_rfl)
theorem al74 (s : ASt) (d : Nat) : aalloc Try.prog s d 74 = s.new d 1 [.flat (.int .u64 0)] (.ptr (s.gh.nm d) s.gen 0) := aalloc_of ti74 s d
theorem bx74 (s : ASt) (d : Nat) (x : AVal) : abox Try.prog s d 74 x = (match cellsOf x with | some vs => s.new d 1 vs (.ptr (s.gh.nm d) s.gen 0) | none => none) := abox_of ti74 s d x
theorem ti75 : ti Try.prog 75 = some ⟨1, false, 8, [.flat .nilFunc], .none⟩ := (ti_eq _ _).trans (by kernel_rfl)
theorem al75 (s : ASt) (d : Nat) : aalloc Try.prog s d 75 = s.new d 1 [.flat .nilFunc] (.ptr (s.gh.nm d) s.gen 0) := aalloc_of ti75 s d
theorem bx75 (s : ASt) (d : Nat) (x : AVal) : abox Try.prog s d 75 x = (match cellsOf x with | some vs => s.new d 1 vs (.ptr (s.gh.nm d) s.gen 0) | none => none) := abox_of ti75 s d x
theorem ti76 : ti Try.prog 76 = some ⟨1, false, 8, [.flat (.int .u64 0)], .none⟩ := (ti_eq _ _).trans (by kernel_rfl)
theorem al76 (s : ASt) (d : Nat) : aalloc Try.prog s d 76 = s.new d 1 [.flat (.int .u64 0)] (.ptr (s.gh.nm d) s.gen 0) := aalloc_of ti76 s d
theorem bx76 (s : ASt) (d : Nat) (x : AVal) : abox Try.prog s d 76 x = (match cellsOf x with | some vs => s.new d 1 vs (.ptr (s.gh.nm d) s.gen 0) | none => none) := abox_of ti76 s d x
theorem ti77 : ti Try.prog 77 = some ⟨1, false, 8, [.flat .nilFunc], .none⟩ := (ti_eq _ _).trans (by kernel_rfl)
theorem al77 (s : ASt) (d : Nat) : aalloc Try.prog s d 77 = s.new d 1 [.flat .nilFunc] (.ptr (s.gh.nm d) s.gen 0) := aalloc_of ti77 s d
theorem bx77 (s : ASt) (d : Nat) (x : AVal) : abox Try.prog s d 77 x = (match cellsOf x with | some vs => s.new d 1 vs (.ptr (s.gh.nm d) s.gen 0) | none => none) := abox_of ti77 s d x
theorem ti78 : ti Try.prog 78 = some ⟨1, false, 8, [.flat .nilFunc], .none⟩ := (ti_eq _ _).trans (by kernel_rfl)
theorem al78 (s : ASt) (d : Nat) : aalloc Try.prog s d 78 = s.new d 1 [.flat .nilFunc] (.ptr (s.gh.nm d) s.gen 0) := aalloc_of ti78 s d
theorem bx78 (s : ASt) (d : Nat) (x : AVal) : abox Try.prog s d 78 x = (match cellsOf x with | some vs => s.new d 1 vs (.ptr (s.gh.nm d) s.gen 0) | none => none) := abox_of ti78 s d x
theorem ti79 : ti Try.prog 79 = some ⟨1, false, 8, [.flat .nilFunc], .none⟩ := (ti_eq _ _).trans (by kernel_rfl)
theorem al79 (s : ASt) (d : Nat) : aalloc Try.prog s d 79 = s.new d 1 [.flat .nilFunc] (.ptr (s.gh.nm d) s.gen 0) := aalloc_of ti79 s d
theorem bx79 (s : ASt) (d : Nat) (x : AVal) : abox Try.prog s d 79 x = (match cellsOf x with | some vs => s.new d 1 vs (.ptr (s.gh.nm d) s.gen 0) | none => none) := abox_of ti79 s d x
theorem ti80 : ti Try.prog 80 = some ⟨1, false, 8, [.flat (.pointer none)], .none⟩ := (ti_eq _ _).trans (by kernel_rfl)
theorem al80 (s : ASt) (d : Nat) : aalloc Try.prog s d 80 = s.new d 1 [.flat (.pointer none)] (.ptr (s.gh.nm d) s.gen 0) := aalloc_of ti80 s d
theorem bx80 (s : ASt) (d : Nat) (x : AVal) : abox Try.prog s d 80 x = (match cellsOf x with | some vs => s.new d 1 vs (.ptr (s.gh.nm d) s.gen 0) | none => none) := abox_of ti80 s d x
theorem ti81 : ti Try.prog 81 = some ⟨1, false, 8, [.flat .nilFunc], .none⟩ := (ti_eq _ _).trans (by kernel_rfl)
theorem al81 (s : ASt) (d : Nat) : aalloc Try.prog s d 81 = s.new d 1 [.flat .nilFunc] (.ptr (s.gh.nm d) s.gen 0) := aalloc_of ti81 s d
theorem bx81 (s : ASt) (d : Nat) (x : AVal) : abox Try.prog s d 81 x = (match cellsOf x with | some vs => s.new d 1 vs (.ptr (s.gh.nm d) s.gen 0) | none => none) := abox_of ti81 s d x
theorem ti82 : ti Try.prog 82 = some ⟨1, false, 8, [.flat (.pointer none)], .none⟩ := (ti_eq _ _).trans (by kernel_rfl)
theorem al82 (s : ASt) (d : Nat) : aalloc Try.prog s d 82 = s.new d 1 [.flat (.pointer none)] (.ptr (s.gh.nm d) s.gen 0) := aalloc_of ti82 s d
theorem bx82 (s : ASt) (d : Nat) (x : AVal) : abox Try.prog s d 82 x = (match cellsOf x with | some vs => s.new d 1 vs (.ptr (s.gh.nm d) s.gen 0) | none => none) := abox_of ti82 s d x
theorem ti84 : ti Try.prog 84 = some ⟨1, false, 8, [.flat .nilFunc], .none⟩ := (ti_eq _ _).trans (by kernel_rfl)
theorem al84 (s : ASt) (d : Nat) : aalloc Try.prog s d 84 = s.new d 1 [.flat .nilFunc] (.ptr (s.gh.nm d) s.gen 0) := aalloc_of ti84 s d
theorem bx84 (s : ASt) (d : Nat) (x : AVal) : abox Try.prog s d 84 x = (match cellsOf x with | some vs => s.new d 1 vs (.ptr (s.gh.nm d) s.gen 0) | none => none) := abox_of ti84 s d x
theorem ti85 : ti Try.prog 85 = some ⟨1, false, 8, [.flat .nilFunc], .none⟩ := (ti_eq _ _).trans (by kernel_rfl)
theorem al85 (s : ASt) (d : Nat) : aalloc Try.prog s d 85 = s.new d 1 [.flat .nilFunc] (.ptr (s.gh.nm d) s.gen 0) := aalloc_of ti85 s d
theorem bx85 (s : ASt) (d : Nat) (x : AVal) : abox Try.prog s d 85 x = (match cellsOf x with | some vs => s.new d 1 vs (.ptr (s.gh.nm d) s.gen 0) | none => none) := abox_of ti85 s d x
theorem ti88 : ti Try.prog 88 = some ⟨0, true, 0, [], .array 0 16⟩ := (ti_eq _ _).trans (by kernel_rfl)
theorem al88 (s : ASt) (d : Nat) : aalloc Try.prog s d 88 = s.new d 0 [] (.ptr (s.gh.nm d) s.gen 0) := aalloc_of ti88 s d
theorem bx88 (s : ASt) (d : Nat) (x : AVal) : abox Try.prog s d 88 x = (match cellsOf x with | some vs => s.new d 0 vs (.ptr (s.gh.nm d) s.gen 0) | none => none) := abox_of ti88 s d x
theorem ti91 : ti Try.prog 91 = some ⟨1, false, 8, [.flat .nilFunc], .none⟩ := (ti_eq _ _).trans (by kernel_rfl)
theorem al91 (s : ASt) (d : Nat) : aalloc Try.prog s d 91 = s.new d 1 [.flat .nilFunc] (.ptr (s.gh.nm d) s.gen 0) := aalloc_of ti91 s d
theorem bx91 (s : ASt) (d : Nat) (x : AVal) : abox Try.prog s d 91 x = (match cellsOf x with | some vs => s.new d 1 vs (.ptr (s.gh.nm d) s.gen 0) | none => none) := abox_of ti91 s d x
theorem ti94 : ti Try.prog 94 = some ⟨1, false, 8, [.flat .nilFunc], .none⟩ := (ti_eq _ _).trans (by kernel_rfl)
theorem al94 (s : ASt) (d : Nat) : aalloc Try.prog s d 94 = s.new d 1 [.flat .nilFunc] (.ptr (s.gh.nm d) s.gen 0) := aalloc_of ti94 s d
theorem bx94 (s : ASt) (d : Nat) (x : AVal) : abox Try.prog s d 94 x = (match cellsOf x with | some vs => s.new d 1 vs (.ptr (s.gh.nm d) s.gen 0) | none => none) := abox_of ti94 s d x
theorem ti95 : ti Try.prog 95 = some ⟨1, false, 8, [.flat (.pointer none)], .none⟩ := (ti_eq _ _).trans (by kernel_rfl)
theorem al95 (s : ASt) (d : Nat) : aalloc Try.prog s d 95 = s.new d 1 [.flat (.pointer none)] (.ptr (s.gh.nm d) s.gen 0) := aalloc_of ti95 s d
theorem bx95 (s : ASt) (d : Nat) (x : AVal) : abox Try.prog s d 95 x = (match cellsOf x with | some vs => s.new d 1 vs (.ptr (s.gh.nm d) s.gen 0) | none => none) := abox_of ti95 s d x
theorem ti98 : ti Try.prog 98 = some ⟨11, true, 48, [.flat (.int .u64 0), .flat (.int .u64 0), .flat (.int .u32 0), .flat (.int .u8 0), .flat (.int .u8 0), .flat (.int .u8 0), .flat (.int .u8 0), .flat .nilFunc, .flat (.pointer none), .flat (.int .i32 0), .flat (.int .i32 0)], .struct [(0, 12), (1, 12), (2, 72), (3, 92), (4, 5), (5, 5), (6, 93), (7, 94), (8, 95), (9, 96), (10, 97)]⟩ := (ti_eq _ _).trans (by kernel_rfl)
theorem al98 (s : ASt) (d : Nat) : aalloc Try.prog s d 98 = s.new d 11 [.flat (.int .u64 0), .flat (.int .u64 0), .flat (.int .u32 0), .flat (.int .u8 0), .flat (.int .u8 0), .flat (.int .u8 0), .flat (.int .u8 0), .flat .nilFunc, .flat (.pointer none), .flat (.int .i32 0), .flat (.int .i32 0)] (.ptr (s.gh.nm d) s.gen 0) := aalloc_of ti98 s d
theorem bx98 (s : ASt) (d : Nat) (x : AVal) : abox Try.prog s d 98 x = (match cellsOf x with | some vs => s.new d 11 vs (.ptr (s.gh.nm d) s.gen 0) | none => none) := abox_of ti98 s d x
theorem sem_neB (x y : Operand) (p q : Bool) : semS Try.prog (do eqGuard .neq 4 x y (.bool p) (.bool q); binOp .neq 4 (.bool p) (.bool q)) = some (.flat (.bool (!(p == q)))) := sem_neb Try.prog x y p q (by kernel_rfl)
theorem sem_eqB (x y : Operand) (p q : Bool) : semS Try.prog (do eqGuard .eql 4 x y (.bool p) (.bool q); binOp .eql 4 (.bool p) (.bool q)) = some (.flat (.bool (p == q))) := sem_eqb Try.prog x y p q (by kernel_rfl)
theorem tabS : type_of% (And.intro (And.intro (And.intro (And.intro (And.intro (And.intro (And.intro @ti1 (And.intro @al1 @bx1)) (And.intro @ti2 (And.intro @al2 @bx2))) (And.intro (And.intro @ti3 (And.intro @al3 @bx3)) (And.intro (And.intro @ti4 @al4) (And.intro @bx4 @ti5)))) (And.intro (And.intro (And.intro @al5 (And.intro @bx5 @ti9)) (And.intro (And.intro @al9 @bx9) (And.intro @ti12 @al12))) (And.intro (And.intro @bx12 (And.intro @ti21 @al21)) (And.intro (And.intro @bx21 @ti22) (And.intro @al22 @bx22))))) (And.intro (And.intro (And.intro (And.intro @ti23 (And.intro @al23 @bx23)) (And.intro @ti24 (And.intro @al24 @bx24))) (And.intro (And.intro @ti25 (And.intro @al25 @bx25)) (And.intro (And.intro @ti27 @al27) (And.intro @bx27 @ti28)))) (And.intro (And.intro (And.intro @al28 (And.intro @bx28 @ti29)) (And.intro (And.intro @al29 @bx29) (And.intro @ti30 @al30))) (And.intro (And.intro @bx30 (And.intro @ti31 @al31)) (And.intro (And.intro @bx31 @ti32) (And.intro @al32 @bx32)))))) (And.intro (And.intro (And.intro (And.intro (And.intro @ti34 (And.intro @al34 @bx34)) (And.intro @ti35 (And.intro @al35 @bx35))) (And.intro (And.intro @ti36 (And.intro @al36 @bx36)) (And.intro (And.intro @ti37 @al37) (And.intro @bx37 @ti38)))) (And.intro (And.intro (And.intro @al38 (And.intro @bx38 @ti39)) (And.intro (And.intro @al39 @bx39) (And.intro @ti40 @al40))) (And.intro (And.intro @bx40 (And.intro @ti41 @al41)) (And.intro (And.intro @bx41 @ti42) (And.intro @al42 @bx42))))) (And.intro (And.intro (And.intro (And.intro @ti43 (And.intro @al43 @bx43)) (And.intro (And.intro @ti44 @al44) (And.intro @bx44 @ti45))) (And.intro (And.intro @al45 (And.intro @bx45 @ti46)) (And.intro (And.intro @al46 @bx46) (And.intro @ti47 @al47)))) (And.intro (And.intro (And.intro @bx47 (And.intro @ti48 @al48)) (And.intro (And.intro @bx48 @ti49) (And.intro @al49 @bx49))) (And.intro (And.intro @ti50 (And.intro @al50 @bx50)) (And.intro (And.intro @ti51 @al51) (And.intro @bx51 @ti52))))))) (And.intro (And.intro (And.intro (And.intro (And.intro (And.intro @al52 (And.intro @bx52 @ti53)) (And.intro @al53 (And.intro @bx53 @ti54))) (And.intro (And.intro @al54 (And.intro @bx54 @ti55)) (And.intro (And.intro @al55 @bx55) (And.intro @ti56 @al56)))) (And.intro (And.intro (And.intro @bx56 (And.intro @ti57 @al57)) (And.intro (And.intro @bx57 @ti58) (And.intro @al58 @bx58))) (And.intro (And.intro @ti59 (And.intro @al59 @bx59)) (And.intro (And.intro @ti60 @al60) (And.intro @bx60 @ti61))))) (And.intro (And.intro (And.intro (And.intro @al61 (And.intro @bx61 @ti62)) (And.intro @al62 (And.intro @bx62 @ti63))) (And.intro (And.intro @al63 (And.intro @bx63 @ti65)) (And.intro (And.intro @al65 @bx65) (And.intro @ti66 @al66)))) (And.intro (And.intro (And.intro @bx66 (And.intro @ti67 @al67)) (And.intro (And.intro @bx67 @ti68) (And.intro @al68 @bx68))) (And.intro (And.intro @ti70 (And.intro @al70 @bx70)) (And.intro (And.intro @ti71 @al71) (And.intro @bx71 @ti72)))))) (And.intro (And.intro (And.intro (And.intro (And.intro @al72 (And.intro @bx72 @ti73)) (And.intro @al73 (And.intro @bx73 @ti74))) (And.intro (And.intro @al74 (And.intro @bx74 @ti75)) (And.intro (And.intro @al75 @bx75) (And.intro @ti76 @al76)))) (And.intro (And.intro (And.intro @bx76 (And.intro @ti77 @al77)) (And.intro (And.intro @bx77 @ti78) (And.intro @al78 @bx78))) (And.intro (And.intro @ti79 (And.intro @al79 @bx79)) (And.intro (And.intro @ti80 @al80) (And.intro @bx80 @ti81))))) (And.intro (And.intro (And.intro (And.intro @al81 (And.intro @bx81 @ti82)) (And.intro (And.intro @al82 @bx82) (And.intro @ti84 @al84))) (And.intro (And.intro @bx84 (And.intro @ti85 @al85)) (And.intro (And.intro @bx85 @ti88) (And.intro @al88 @bx88)))) (And.intro (And.intro (And.intro @ti91 (And.intro @al91 @bx91)) (And.intro (And.intro @ti94 @al94) (And.intro @bx94 @ti95))) (And.intro (And.intro @al95 (And.intro @bx95 @ti98)) (And.intro (And.intro @al98 @bx98) (And.intro @sem_neB @sem_eqB)))))))) := (And.intro (And.intro (And.intro (And.intro (And.intro (And.intro (And.intro @ti1 (And.intro @al1 @bx1)) (And.intro @ti2 (And.intro @al2 @bx2))) (And.intro (And.intro @ti3 (And.intro @al3 @bx3)) (And.intro (And.intro @ti4 @al4) (And.intro @bx4 @ti5)))) (And.intro (And.intro (And.intro @al5 (And.intro @bx5 @ti9)) (And.intro (And.intro @al9 @bx9) (And.intro @ti12 @al12))) (And.intro (And.intro @bx12 (And.intro @ti21 @al21)) (And.intro (And.intro @bx21 @ti22) (And.intro @al22 @bx22))))) (And.intro (And.intro (And.intro (And.intro @ti23 (And.intro @al23 @bx23)) (And.intro @ti24 (And.intro @al24 @bx24))) (And.intro (And.intro @ti25 (And.intro @al25 @bx25)) (And.intro (And.intro @ti27 @al27) (And.intro @bx27 @ti28)))) (And.intro (And.intro (And.intro @al28 (And.intro @bx28 @ti29)) (And.intro (And.intro @al29 @bx29) (And.intro @ti30 @al30))) (And.intro (And.intro @bx30 (And.intro @ti31 @al31)) (And.intro (And.intro @bx31 @ti32) (And.intro @al32 @bx32)))))) (And.intro (And.intro (And.intro (And.intro (And.intro @ti34 (And.intro @al34 @bx34)) (And.intro @ti35 (And.intro @al35 @bx35))) (And.intro (And.intro @ti36 (And.intro @al36 @bx36)) (And.intro (And.intro @ti37 @al37) (And.intro @bx37 @ti38)))) (And.intro (And.intro (And.intro @al38 (And.intro @bx38 @ti39)) (And.intro (And.intro @al39 @bx39) (And.intro @ti40 @al40))) (And.intro (And.intro @bx40 (And.intro @ti41 @al41)) (And.intro (And.intro @bx41 @ti42) (And.intro @al42 @bx42))))) (And.intro (And.intro (And.intro (And.intro @ti43 (And.intro @al43 @bx43)) (And.intro (And.intro @ti44 @al44) (And.intro @bx44 @ti45))) (And.intro (And.intro @al45 (And.intro @bx45 @ti46)) (And.intro (And.intro @al46 @bx46) (And.intro @ti47 @al47)))) (And.intro (And.intro (And.intro @bx47 (And.intro @ti48 @al48)) (And.intro (And.intro @bx48 @ti49) (And.intro @al49 @bx49))) (And.intro (And.intro @ti50 (And.intro @al50 @bx50)) (And.intro (And.intro @ti51 @al51) (And.intro @bx51 @ti52))))))) (And.intro (And.intro (And.intro (And.intro (And.intro (And.intro @al52 (And.intro @bx52 @ti53)) (And.intro @al53 (And.intro @bx53 @ti54))) (And.intro (And.intro @al54 (And.intro @bx54 @ti55)) (And.intro (And.intro @al55 @bx55) (And.intro @ti56 @al56)))) (And.intro (And.intro (And.intro @bx56 (And.intro @ti57 @al57)) (And.intro (And.intro @bx57 @ti58) (And.intro @al58 @bx58))) (And.intro (And.intro @ti59 (And.intro @al59 @bx59)) (And.intro (And.intro @ti60 @al60) (And.intro @bx60 @ti61))))) (And.intro (And.intro (And.intro (And.intro @al61 (And.intro @bx61 @ti62)) (And.intro @al62 (And.intro @bx62 @ti63))) (And.intro (And.intro @al63 (And.intro @bx63 @ti65)) (And.intro (And.intro @al65 @bx65) (And.intro @ti66 @al66)))) (And.intro (And.intro (And.intro @bx66 (And.intro @ti67 @al67)) (And.intro (And.intro @bx67 @ti68) (And.intro @al68 @bx68))) (And.intro (And.intro @ti70 (And.intro @al70 @bx70)) (And.intro (And.intro @ti71 @al71) (And.intro @bx71 @ti72)))))) (And.intro (And.intro (And.intro (And.intro (And.intro @al72 (And.intro @bx72 @ti73)) (And.intro @al73 (And.intro @bx73 @ti74))) (And.intro (And.intro @al74 (And.intro @bx74 @ti75)) (And.intro (And.intro @al75 @bx75) (And.intro @ti76 @al76)))) (And.intro (And.intro (And.intro @bx76 (And.intro @ti77 @al77)) (And.intro (And.intro @bx77 @ti78) (And.intro @al78 @bx78))) (And.intro (And.intro @ti79 (And.intro @al79 @bx79)) (And.intro (And.intro @ti80 @al80) (And.intro @bx80 @ti81))))) (And.intro (And.intro (And.intro (And.intro @al81 (And.intro @bx81 @ti82)) (And.intro (And.intro @al82 @bx82) (And.intro @ti84 @al84))) (And.intro (And.intro @bx84 (And.intro @ti85 @al85)) (And.intro (And.intro @bx85 @ti88) (And.intro @al88 @bx88)))) (And.intro (And.intro (And.intro @ti91 (And.intro @al91 @bx91)) (And.intro (And.intro @ti94 @al94) (And.intro @bx94 @ti95))) (And.intro (And.intro @al95 (And.intro @bx95 @ti98)) (And.intro (And.intro @al98 @bx98) (And.intro @sem_neB @sem_eqB))))))))
theorem mixed : Try.prog.follows .mixedOrders = true := by kernel_rfl
theorem laidOut : laidOutB Try.prog = true := by kernel_rfl
theorem ownK : ownKnob Try.prog.godebug = none := by kernel_rfl
end Go.Proofs.Ytlpfnnnniifliaa
