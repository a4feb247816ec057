/-
  OWN WORK, printed by program: the types of this seat, as the walk over abstract states asks for them.
-/
import Derived.Test.YtiaemddmkmfijaaDoorChecked
import Derived.Test.YtiaemddmkmfijaaDoorOwnM
namespace Go.Proofs.YtiaemddmkmfijaaDoor
open Go Go.Own Go.Proofs
def tab_uint64pow10 : List Int := [1, 10, 100, 1000, 10000, 100000, 1000000, 10000000, 100000000, 1000000000, 10000000000, 100000000000, 1000000000000, 10000000000000, 100000000000000, 1000000000000000, 10000000000000000, 100000000000000000, 1000000000000000000, 10000000000000000000]
def gl_uint64pow10 : List AVal := mapC (fun n => AVal.flat (.int .u64 n)) tab_uint64pow10
def tab_deBruijn32tab : List Int := [0, 1, 28, 2, 29, 14, 24, 3, 30, 22, 20, 15, 25, 17, 4, 8, 31, 27, 13, 23, 21, 19, 16, 7, 26, 12, 18, 6, 11, 5, 10, 9]
def gl_deBruijn32tab : List AVal := mapC (fun n => AVal.flat (.int .u8 n)) tab_deBruijn32tab
def tab_deBruijn64tab : List Int := [0, 1, 56, 2, 57, 49, 28, 3, 61, 58, 42, 50, 38, 29, 17, 4, 62, 47, 59, 36, 45, 43, 51, 22, 53, 39, 33, 30, 24, 18, 12, 5, 63, 55, 48, 27, 60, 41, 37, 16, 46, 35, 44, 21, 52, 32, 23, 11, 54, 26, 40, 15, 34, 20, 31, 10, 25, 14, 19, 9, 13, 8, 7, 6]
def gl_deBruijn64tab : List AVal := mapC (fun n => AVal.flat (.int .u8 n)) tab_deBruijn64tab
instance : GL := ⟨[(1, gl_uint64pow10), (6, gl_deBruijn32tab), (7, gl_deBruijn64tab)], by decide, [(1, tab_uint64pow10.map (Value.int .u64)), (6, tab_deBruijn32tab.map (Value.int .u8)), (7, tab_deBruijn64tab.map (Value.int .u8))], [(0, 0), (2, 1), (3, 1)]⟩
theorem glob1 : globV 1 = .iptr gl_uint64pow10 0 := rfl
theorem glob6 : globV 6 = .iptr gl_deBruijn32tab 0 := rfl
theorem glob7 : globV 7 = .iptr gl_deBruijn64tab 0 := rfl
theorem aalloc_of {P : Program} {t : TypeId} {i : TI} (h : ti P t = some i) (s : ASt) (d : Nat) : aalloc P s d t = s.new d i.size i.zero (.ptr (s.gh.nm d) s.gen 0) := by unfold aalloc; rw [h]
theorem abox_of {P : Program} {t : TypeId} {i : TI} (h : ti P t = some i) (s : ASt) (d : Nat) (x : AVal) : abox P s d t x = (match cellsOf x with | some vs => s.new d i.size vs (.ptr (s.gh.nm d) s.gen 0) | none => none) := by unfold abox; rw [h]; cases cellsOf x <;> rfl
theorem ti1 : ti Tryd.prog 1 = some ⟨1, false, 8, [.flat .nilFunc], .none⟩ := (ti_eq _ _).trans (by kernel_rfl)
theorem al1 (s : ASt) (d : Nat) : aalloc Tryd.prog s d 1 = s.new d 1 [.flat .nilFunc] (.ptr (s.gh.nm d) s.gen 0) := aalloc_of ti1 s d
theorem bx1 (s : ASt) (d : Nat) (x : AVal) : abox Tryd.prog s d 1 x = (match cellsOf x with | some vs => s.new d 1 vs (.ptr (s.gh.nm d) s.gen 0) | none => none) := abox_of ti1 s d x
theorem ti2 : ti Tryd.prog 2 = some ⟨1, false, 8, [.flat (.int .i64 0)], .none⟩ := (ti_eq _ _).trans (by kernel_rfl)
theorem al2 (s : ASt) (d : Nat) : aalloc Tryd.prog s d 2 = s.new d 1 [.flat (.int .i64 0)] (.ptr (s.gh.nm d) s.gen 0) := aalloc_of ti2 s d
theorem bx2 (s : ASt) (d : Nat) (x : AVal) : abox Tryd.prog s d 2 x = (match cellsOf x with | some vs => s.new d 1 vs (.ptr (s.gh.nm d) s.gen 0) | none => none) := abox_of ti2 s d x
theorem ti3 : ti Tryd.prog 3 = some ⟨1, false, 8, [.flat (.int .i64 0)], .none⟩ := (ti_eq _ _).trans (by kernel_rfl)
theorem al3 (s : ASt) (d : Nat) : aalloc Tryd.prog s d 3 = s.new d 1 [.flat (.int .i64 0)] (.ptr (s.gh.nm d) s.gen 0) := aalloc_of ti3 s d
theorem bx3 (s : ASt) (d : Nat) (x : AVal) : abox Tryd.prog s d 3 x = (match cellsOf x with | some vs => s.new d 1 vs (.ptr (s.gh.nm d) s.gen 0) | none => none) := abox_of ti3 s d x
theorem ti4 : ti Tryd.prog 4 = some ⟨1, false, 1, [.flat (.bool false)], .none⟩ := (ti_eq _ _).trans (by kernel_rfl)
theorem al4 (s : ASt) (d : Nat) : aalloc Tryd.prog s d 4 = s.new d 1 [.flat (.bool false)] (.ptr (s.gh.nm d) s.gen 0) := aalloc_of ti4 s d
theorem bx4 (s : ASt) (d : Nat) (x : AVal) : abox Tryd.prog s d 4 x = (match cellsOf x with | some vs => s.new d 1 vs (.ptr (s.gh.nm d) s.gen 0) | none => none) := abox_of ti4 s d x
theorem ti5 : ti Tryd.prog 5 = some ⟨1, false, 1, [.flat (.int .u8 0)], .none⟩ := (ti_eq _ _).trans (by kernel_rfl)
theorem al5 (s : ASt) (d : Nat) : aalloc Tryd.prog s d 5 = s.new d 1 [.flat (.int .u8 0)] (.ptr (s.gh.nm d) s.gen 0) := aalloc_of ti5 s d
theorem bx5 (s : ASt) (d : Nat) (x : AVal) : abox Tryd.prog s d 5 x = (match cellsOf x with | some vs => s.new d 1 vs (.ptr (s.gh.nm d) s.gen 0) | none => none) := abox_of ti5 s d x
theorem ti9 : ti Tryd.prog 9 = some ⟨1, false, 16, [.flat (.string ByteArray.empty)], .str⟩ := (ti_eq _ _).trans (by kernel_rfl)
theorem al9 (s : ASt) (d : Nat) : aalloc Tryd.prog s d 9 = s.new d 1 [.flat (.string ByteArray.empty)] (.ptr (s.gh.nm d) s.gen 0) := aalloc_of ti9 s d
theorem bx9 (s : ASt) (d : Nat) (x : AVal) : abox Tryd.prog s d 9 x = (match cellsOf x with | some vs => s.new d 1 vs (.ptr (s.gh.nm d) s.gen 0) | none => none) := abox_of ti9 s d x
theorem ti12 : ti Tryd.prog 12 = some ⟨1, false, 8, [.flat (.int .u64 0)], .none⟩ := (ti_eq _ _).trans (by kernel_rfl)
theorem al12 (s : ASt) (d : Nat) : aalloc Tryd.prog s d 12 = s.new d 1 [.flat (.int .u64 0)] (.ptr (s.gh.nm d) s.gen 0) := aalloc_of ti12 s d
theorem bx12 (s : ASt) (d : Nat) (x : AVal) : abox Tryd.prog s d 12 x = (match cellsOf x with | some vs => s.new d 1 vs (.ptr (s.gh.nm d) s.gen 0) | none => none) := abox_of ti12 s d x
theorem ti21 : ti Tryd.prog 21 = some ⟨1, false, 4, [.flat (.int .i32 0)], .none⟩ := (ti_eq _ _).trans (by kernel_rfl)
theorem al21 (s : ASt) (d : Nat) : aalloc Tryd.prog s d 21 = s.new d 1 [.flat (.int .i32 0)] (.ptr (s.gh.nm d) s.gen 0) := aalloc_of ti21 s d
theorem bx21 (s : ASt) (d : Nat) (x : AVal) : abox Tryd.prog s d 21 x = (match cellsOf x with | some vs => s.new d 1 vs (.ptr (s.gh.nm d) s.gen 0) | none => none) := abox_of ti21 s d x
theorem ti22 : ti Tryd.prog 22 = some ⟨1, false, 24, [.nl], .slice 2⟩ := (ti_eq _ _).trans (by kernel_rfl)
theorem al22 (s : ASt) (d : Nat) : aalloc Tryd.prog s d 22 = s.new d 1 [.nl] (.ptr (s.gh.nm d) s.gen 0) := aalloc_of ti22 s d
theorem bx22 (s : ASt) (d : Nat) (x : AVal) : abox Tryd.prog s d 22 x = (match cellsOf x with | some vs => s.new d 1 vs (.ptr (s.gh.nm d) s.gen 0) | none => none) := abox_of ti22 s d x
theorem ti23 : ti Tryd.prog 23 = some ⟨5, true, 72, [.flat (.int .i64 0), .flat (.int .i64 0), .flat (.int .i64 0), .nl, .nl], .struct [(0, 2), (1, 2), (2, 2), (3, 22), (4, 22)]⟩ := (ti_eq _ _).trans (by kernel_rfl)
theorem al23 (s : ASt) (d : Nat) : aalloc Tryd.prog s d 23 = s.new d 5 [.flat (.int .i64 0), .flat (.int .i64 0), .flat (.int .i64 0), .nl, .nl] (.ptr (s.gh.nm d) s.gen 0) := aalloc_of ti23 s d
theorem bx23 (s : ASt) (d : Nat) (x : AVal) : abox Tryd.prog s d 23 x = (match cellsOf x with | some vs => s.new d 5 vs (.ptr (s.gh.nm d) s.gen 0) | none => none) := abox_of ti23 s d x
theorem ti24 : ti Tryd.prog 24 = some ⟨5, true, 72, [.flat (.int .i64 0), .flat (.int .i64 0), .flat (.int .i64 0), .nl, .nl], .struct [(0, 2), (1, 2), (2, 2), (3, 22), (4, 22)]⟩ := (ti_eq _ _).trans (by kernel_rfl)
theorem al24 (s : ASt) (d : Nat) : aalloc Tryd.prog s d 24 = s.new d 5 [.flat (.int .i64 0), .flat (.int .i64 0), .flat (.int .i64 0), .nl, .nl] (.ptr (s.gh.nm d) s.gen 0) := aalloc_of ti24 s d
theorem bx24 (s : ASt) (d : Nat) (x : AVal) : abox Tryd.prog s d 24 x = (match cellsOf x with | some vs => s.new d 5 vs (.ptr (s.gh.nm d) s.gen 0) | none => none) := abox_of ti24 s d x
theorem ti27 : ti Tryd.prog 27 = some ⟨5, true, 72, [.flat (.int .i64 0), .flat (.int .i64 0), .flat (.int .i64 0), .nl, .nl], .struct [(0, 2), (1, 2), (2, 2), (3, 22), (4, 22)]⟩ := (ti_eq _ _).trans (by kernel_rfl)
theorem al27 (s : ASt) (d : Nat) : aalloc Tryd.prog s d 27 = s.new d 5 [.flat (.int .i64 0), .flat (.int .i64 0), .flat (.int .i64 0), .nl, .nl] (.ptr (s.gh.nm d) s.gen 0) := aalloc_of ti27 s d
theorem bx27 (s : ASt) (d : Nat) (x : AVal) : abox Tryd.prog s d 27 x = (match cellsOf x with | some vs => s.new d 5 vs (.ptr (s.gh.nm d) s.gen 0) | none => none) := abox_of ti27 s d x
theorem ti31 : ti Tryd.prog 31 = some ⟨1, false, 24, [.nl], .slice 5⟩ := (ti_eq _ _).trans (by kernel_rfl)
theorem al31 (s : ASt) (d : Nat) : aalloc Tryd.prog s d 31 = s.new d 1 [.nl] (.ptr (s.gh.nm d) s.gen 0) := aalloc_of ti31 s d
theorem bx31 (s : ASt) (d : Nat) (x : AVal) : abox Tryd.prog s d 31 x = (match cellsOf x with | some vs => s.new d 1 vs (.ptr (s.gh.nm d) s.gen 0) | none => none) := abox_of ti31 s d x
theorem ti33 : ti Tryd.prog 33 = some ⟨2, true, 48, [.nl, .nl], .struct [(0, 22), (1, 22)]⟩ := (ti_eq _ _).trans (by kernel_rfl)
theorem al33 (s : ASt) (d : Nat) : aalloc Tryd.prog s d 33 = s.new d 2 [.nl, .nl] (.ptr (s.gh.nm d) s.gen 0) := aalloc_of ti33 s d
theorem bx33 (s : ASt) (d : Nat) (x : AVal) : abox Tryd.prog s d 33 x = (match cellsOf x with | some vs => s.new d 2 vs (.ptr (s.gh.nm d) s.gen 0) | none => none) := abox_of ti33 s d x
theorem ti34 : ti Tryd.prog 34 = some ⟨2, true, 48, [.nl, .nl], .struct [(0, 22), (1, 22)]⟩ := (ti_eq _ _).trans (by kernel_rfl)
theorem al34 (s : ASt) (d : Nat) : aalloc Tryd.prog s d 34 = s.new d 2 [.nl, .nl] (.ptr (s.gh.nm d) s.gen 0) := aalloc_of ti34 s d
theorem bx34 (s : ASt) (d : Nat) (x : AVal) : abox Tryd.prog s d 34 x = (match cellsOf x with | some vs => s.new d 2 vs (.ptr (s.gh.nm d) s.gen 0) | none => none) := abox_of ti34 s d x
theorem ti53 : ti Tryd.prog 53 = some ⟨5, true, 40, [.flat (.int .i64 0), .flat (.int .i64 0), .flat (.int .i64 0), .flat (.int .i64 0), .flat (.int .i64 0)], .struct [(0, 2), (1, 2), (2, 2), (3, 2), (4, 2)]⟩ := (ti_eq _ _).trans (by kernel_rfl)
theorem al53 (s : ASt) (d : Nat) : aalloc Tryd.prog s d 53 = s.new d 5 [.flat (.int .i64 0), .flat (.int .i64 0), .flat (.int .i64 0), .flat (.int .i64 0), .flat (.int .i64 0)] (.ptr (s.gh.nm d) s.gen 0) := aalloc_of ti53 s d
theorem bx53 (s : ASt) (d : Nat) (x : AVal) : abox Tryd.prog s d 53 x = (match cellsOf x with | some vs => s.new d 5 vs (.ptr (s.gh.nm d) s.gen 0) | none => none) := abox_of ti53 s d x
theorem ti54 : ti Tryd.prog 54 = some ⟨5, true, 40, [.flat (.int .i64 0), .flat (.int .i64 0), .flat (.int .i64 0), .flat (.int .i64 0), .flat (.int .i64 0)], .struct [(0, 2), (1, 2), (2, 2), (3, 2), (4, 2)]⟩ := (ti_eq _ _).trans (by kernel_rfl)
theorem al54 (s : ASt) (d : Nat) : aalloc Tryd.prog s d 54 = s.new d 5 [.flat (.int .i64 0), .flat (.int .i64 0), .flat (.int .i64 0), .flat (.int .i64 0), .flat (.int .i64 0)] (.ptr (s.gh.nm d) s.gen 0) := aalloc_of ti54 s d
theorem bx54 (s : ASt) (d : Nat) (x : AVal) : abox Tryd.prog s d 54 x = (match cellsOf x with | some vs => s.new d 5 vs (.ptr (s.gh.nm d) s.gen 0) | none => none) := abox_of ti54 s d x
theorem ti60 : ti Tryd.prog 60 = some ⟨2, true, 16, [.flat (.int .i64 0), .flat (.int .i64 0)], .struct [(0, 2), (1, 2)]⟩ := (ti_eq _ _).trans (by kernel_rfl)
theorem al60 (s : ASt) (d : Nat) : aalloc Tryd.prog s d 60 = s.new d 2 [.flat (.int .i64 0), .flat (.int .i64 0)] (.ptr (s.gh.nm d) s.gen 0) := aalloc_of ti60 s d
theorem bx60 (s : ASt) (d : Nat) (x : AVal) : abox Tryd.prog s d 60 x = (match cellsOf x with | some vs => s.new d 2 vs (.ptr (s.gh.nm d) s.gen 0) | none => none) := abox_of ti60 s d x
theorem ti61 : ti Tryd.prog 61 = some ⟨2, true, 16, [.flat (.int .i64 0), .flat (.int .i64 0)], .struct [(0, 2), (1, 2)]⟩ := (ti_eq _ _).trans (by kernel_rfl)
theorem al61 (s : ASt) (d : Nat) : aalloc Tryd.prog s d 61 = s.new d 2 [.flat (.int .i64 0), .flat (.int .i64 0)] (.ptr (s.gh.nm d) s.gen 0) := aalloc_of ti61 s d
theorem bx61 (s : ASt) (d : Nat) (x : AVal) : abox Tryd.prog s d 61 x = (match cellsOf x with | some vs => s.new d 2 vs (.ptr (s.gh.nm d) s.gen 0) | none => none) := abox_of ti61 s d x
theorem ti66 : ti Tryd.prog 66 = some ⟨1, false, 8, [.flat (.pointer none)], .none⟩ := (ti_eq _ _).trans (by kernel_rfl)
theorem al66 (s : ASt) (d : Nat) : aalloc Tryd.prog s d 66 = s.new d 1 [.flat (.pointer none)] (.ptr (s.gh.nm d) s.gen 0) := aalloc_of ti66 s d
theorem bx66 (s : ASt) (d : Nat) (x : AVal) : abox Tryd.prog s d 66 x = (match cellsOf x with | some vs => s.new d 1 vs (.ptr (s.gh.nm d) s.gen 0) | none => none) := abox_of ti66 s d x
theorem ti73 : ti Tryd.prog 73 = some ⟨1, false, 8, [.flat (.pointer none)], .none⟩ := (ti_eq _ _).trans (by kernel_rfl)
theorem al73 (s : ASt) (d : Nat) : aalloc Tryd.prog s d 73 = s.new d 1 [.flat (.pointer none)] (.ptr (s.gh.nm d) s.gen 0) := aalloc_of ti73 s d
theorem bx73 (s : ASt) (d : Nat) (x : AVal) : abox Tryd.prog s d 73 x = (match cellsOf x with | some vs => s.new d 1 vs (.ptr (s.gh.nm d) s.gen 0) | none => none) := abox_of ti73 s d x
theorem ti77 : ti Tryd.prog 77 = some ⟨1, false, 8, [.flat .nilFunc], .none⟩ := (ti_eq _ _).trans (by kernel_rfl)
theorem al77 (s : ASt) (d : Nat) : aalloc Tryd.prog s d 77 = s.new d 1 [.flat .nilFunc] (.ptr (s.gh.nm d) s.gen 0) := aalloc_of ti77 s d
theorem bx77 (s : ASt) (d : Nat) (x : AVal) : abox Tryd.prog s d 77 x = (match cellsOf x with | some vs => s.new d 1 vs (.ptr (s.gh.nm d) s.gen 0) | none => none) := abox_of ti77 s d x
theorem ti80 : ti Tryd.prog 80 = some ⟨1, false, 8, [.flat (.pointer none)], .none⟩ := (ti_eq _ _).trans (by kernel_rfl)
theorem al80 (s : ASt) (d : Nat) : aalloc Tryd.prog s d 80 = s.new d 1 [.flat (.pointer none)] (.ptr (s.gh.nm d) s.gen 0) := aalloc_of ti80 s d
theorem bx80 (s : ASt) (d : Nat) (x : AVal) : abox Tryd.prog s d 80 x = (match cellsOf x with | some vs => s.new d 1 vs (.ptr (s.gh.nm d) s.gen 0) | none => none) := abox_of ti80 s d x
theorem ti82 : ti Tryd.prog 82 = some ⟨1, false, 8, [.flat .nilFunc], .none⟩ := (ti_eq _ _).trans (by kernel_rfl)
theorem al82 (s : ASt) (d : Nat) : aalloc Tryd.prog s d 82 = s.new d 1 [.flat .nilFunc] (.ptr (s.gh.nm d) s.gen 0) := aalloc_of ti82 s d
theorem bx82 (s : ASt) (d : Nat) (x : AVal) : abox Tryd.prog s d 82 x = (match cellsOf x with | some vs => s.new d 1 vs (.ptr (s.gh.nm d) s.gen 0) | none => none) := abox_of ti82 s d x
theorem ti85 : ti Tryd.prog 85 = some ⟨1, false, 8, [.flat .nilFunc], .none⟩ := (ti_eq _ _).trans (by kernel_rfl)
theorem al85 (s : ASt) (d : Nat) : aalloc Tryd.prog s d 85 = s.new d 1 [.flat .nilFunc] (.ptr (s.gh.nm d) s.gen 0) := aalloc_of ti85 s d
theorem bx85 (s : ASt) (d : Nat) (x : AVal) : abox Tryd.prog s d 85 x = (match cellsOf x with | some vs => s.new d 1 vs (.ptr (s.gh.nm d) s.gen 0) | none => none) := abox_of ti85 s d x
theorem ti88 : ti Tryd.prog 88 = some ⟨1, false, 24, [.nl], .slice 9⟩ := (ti_eq _ _).trans (by kernel_rfl)
theorem al88 (s : ASt) (d : Nat) : aalloc Tryd.prog s d 88 = s.new d 1 [.nl] (.ptr (s.gh.nm d) s.gen 0) := aalloc_of ti88 s d
theorem bx88 (s : ASt) (d : Nat) (x : AVal) : abox Tryd.prog s d 88 x = (match cellsOf x with | some vs => s.new d 1 vs (.ptr (s.gh.nm d) s.gen 0) | none => none) := abox_of ti88 s d x
theorem ti96 : ti Tryd.prog 96 = some ⟨3, true, 24, [.flat (.int .i64 0), .flat (.int .i64 0), .flat (.int .i64 0)], .array 3 2⟩ := (ti_eq _ _).trans (by kernel_rfl)
theorem al96 (s : ASt) (d : Nat) : aalloc Tryd.prog s d 96 = s.new d 3 [.flat (.int .i64 0), .flat (.int .i64 0), .flat (.int .i64 0)] (.ptr (s.gh.nm d) s.gen 0) := aalloc_of ti96 s d
theorem bx96 (s : ASt) (d : Nat) (x : AVal) : abox Tryd.prog s d 96 x = (match cellsOf x with | some vs => s.new d 3 vs (.ptr (s.gh.nm d) s.gen 0) | none => none) := abox_of ti96 s d x
theorem ti100 : ti Tryd.prog 100 = some ⟨1, false, 8, [.flat .nilFunc], .none⟩ := (ti_eq _ _).trans (by kernel_rfl)
theorem al100 (s : ASt) (d : Nat) : aalloc Tryd.prog s d 100 = s.new d 1 [.flat .nilFunc] (.ptr (s.gh.nm d) s.gen 0) := aalloc_of ti100 s d
theorem bx100 (s : ASt) (d : Nat) (x : AVal) : abox Tryd.prog s d 100 x = (match cellsOf x with | some vs => s.new d 1 vs (.ptr (s.gh.nm d) s.gen 0) | none => none) := abox_of ti100 s d x
theorem ti106 : ti Tryd.prog 106 = some ⟨1, false, 8, [.flat (.int .u64 0)], .none⟩ := (ti_eq _ _).trans (by kernel_rfl)
theorem al106 (s : ASt) (d : Nat) : aalloc Tryd.prog s d 106 = s.new d 1 [.flat (.int .u64 0)] (.ptr (s.gh.nm d) s.gen 0) := aalloc_of ti106 s d
theorem bx106 (s : ASt) (d : Nat) (x : AVal) : abox Tryd.prog s d 106 x = (match cellsOf x with | some vs => s.new d 1 vs (.ptr (s.gh.nm d) s.gen 0) | none => none) := abox_of ti106 s d x
theorem ti107 : ti Tryd.prog 107 = some ⟨3, true, 40, [.nl, .flat (.int .i64 0), .flat (.int .u64 0)], .struct [(0, 31), (1, 3), (2, 106)]⟩ := (ti_eq _ _).trans (by kernel_rfl)
theorem al107 (s : ASt) (d : Nat) : aalloc Tryd.prog s d 107 = s.new d 3 [.nl, .flat (.int .i64 0), .flat (.int .u64 0)] (.ptr (s.gh.nm d) s.gen 0) := aalloc_of ti107 s d
theorem bx107 (s : ASt) (d : Nat) (x : AVal) : abox Tryd.prog s d 107 x = (match cellsOf x with | some vs => s.new d 3 vs (.ptr (s.gh.nm d) s.gen 0) | none => none) := abox_of ti107 s d x
theorem ti108 : ti Tryd.prog 108 = some ⟨3, true, 40, [.nl, .flat (.int .i64 0), .flat (.int .u64 0)], .struct [(0, 31), (1, 3), (2, 106)]⟩ := (ti_eq _ _).trans (by kernel_rfl)
theorem al108 (s : ASt) (d : Nat) : aalloc Tryd.prog s d 108 = s.new d 3 [.nl, .flat (.int .i64 0), .flat (.int .u64 0)] (.ptr (s.gh.nm d) s.gen 0) := aalloc_of ti108 s d
theorem bx108 (s : ASt) (d : Nat) (x : AVal) : abox Tryd.prog s d 108 x = (match cellsOf x with | some vs => s.new d 3 vs (.ptr (s.gh.nm d) s.gen 0) | none => none) := abox_of ti108 s d x
theorem ti121 : ti Tryd.prog 121 = some ⟨1, false, 8, [.flat (.pointer none)], .none⟩ := (ti_eq _ _).trans (by kernel_rfl)
theorem al121 (s : ASt) (d : Nat) : aalloc Tryd.prog s d 121 = s.new d 1 [.flat (.pointer none)] (.ptr (s.gh.nm d) s.gen 0) := aalloc_of ti121 s d
theorem bx121 (s : ASt) (d : Nat) (x : AVal) : abox Tryd.prog s d 121 x = (match cellsOf x with | some vs => s.new d 1 vs (.ptr (s.gh.nm d) s.gen 0) | none => none) := abox_of ti121 s d x
theorem ti122 : ti Tryd.prog 122 = some ⟨2, true, 32, [.flat (.pointer none), .nl], .struct [(0, 121), (1, 31)]⟩ := (ti_eq _ _).trans (by kernel_rfl)
theorem al122 (s : ASt) (d : Nat) : aalloc Tryd.prog s d 122 = s.new d 2 [.flat (.pointer none), .nl] (.ptr (s.gh.nm d) s.gen 0) := aalloc_of ti122 s d
theorem bx122 (s : ASt) (d : Nat) (x : AVal) : abox Tryd.prog s d 122 x = (match cellsOf x with | some vs => s.new d 2 vs (.ptr (s.gh.nm d) s.gen 0) | none => none) := abox_of ti122 s d x
theorem ti123 : ti Tryd.prog 123 = some ⟨2, true, 32, [.flat (.pointer none), .nl], .struct [(0, 121), (1, 31)]⟩ := (ti_eq _ _).trans (by kernel_rfl)
theorem al123 (s : ASt) (d : Nat) : aalloc Tryd.prog s d 123 = s.new d 2 [.flat (.pointer none), .nl] (.ptr (s.gh.nm d) s.gen 0) := aalloc_of ti123 s d
theorem bx123 (s : ASt) (d : Nat) (x : AVal) : abox Tryd.prog s d 123 x = (match cellsOf x with | some vs => s.new d 2 vs (.ptr (s.gh.nm d) s.gen 0) | none => none) := abox_of ti123 s d x
theorem ti129 : ti Tryd.prog 129 = some ⟨2, true, 16, [.flat (.int .i64 0), .flat (.int .i64 0)], .struct [(0, 2), (1, 2)]⟩ := (ti_eq _ _).trans (by kernel_rfl)
theorem al129 (s : ASt) (d : Nat) : aalloc Tryd.prog s d 129 = s.new d 2 [.flat (.int .i64 0), .flat (.int .i64 0)] (.ptr (s.gh.nm d) s.gen 0) := aalloc_of ti129 s d
theorem bx129 (s : ASt) (d : Nat) (x : AVal) : abox Tryd.prog s d 129 x = (match cellsOf x with | some vs => s.new d 2 vs (.ptr (s.gh.nm d) s.gen 0) | none => none) := abox_of ti129 s d x
theorem ti130 : ti Tryd.prog 130 = some ⟨2, true, 16, [.flat (.int .i64 0), .flat (.int .i64 0)], .struct [(0, 2), (1, 2)]⟩ := (ti_eq _ _).trans (by kernel_rfl)
theorem al130 (s : ASt) (d : Nat) : aalloc Tryd.prog s d 130 = s.new d 2 [.flat (.int .i64 0), .flat (.int .i64 0)] (.ptr (s.gh.nm d) s.gen 0) := aalloc_of ti130 s d
theorem bx130 (s : ASt) (d : Nat) (x : AVal) : abox Tryd.prog s d 130 x = (match cellsOf x with | some vs => s.new d 2 vs (.ptr (s.gh.nm d) s.gen 0) | none => none) := abox_of ti130 s d x
theorem ti135 : ti Tryd.prog 135 = some ⟨1, false, 8, [.flat (.int .u64 0)], .none⟩ := (ti_eq _ _).trans (by kernel_rfl)
theorem al135 (s : ASt) (d : Nat) : aalloc Tryd.prog s d 135 = s.new d 1 [.flat (.int .u64 0)] (.ptr (s.gh.nm d) s.gen 0) := aalloc_of ti135 s d
theorem bx135 (s : ASt) (d : Nat) (x : AVal) : abox Tryd.prog s d 135 x = (match cellsOf x with | some vs => s.new d 1 vs (.ptr (s.gh.nm d) s.gen 0) | none => none) := abox_of ti135 s d x
theorem ti142 : ti Tryd.prog 142 = some ⟨1, false, 8, [.flat (.pointer none)], .none⟩ := (ti_eq _ _).trans (by kernel_rfl)
theorem al142 (s : ASt) (d : Nat) : aalloc Tryd.prog s d 142 = s.new d 1 [.flat (.pointer none)] (.ptr (s.gh.nm d) s.gen 0) := aalloc_of ti142 s d
theorem bx142 (s : ASt) (d : Nat) (x : AVal) : abox Tryd.prog s d 142 x = (match cellsOf x with | some vs => s.new d 1 vs (.ptr (s.gh.nm d) s.gen 0) | none => none) := abox_of ti142 s d x
theorem ti157 : ti Tryd.prog 157 = some ⟨1, false, 4, [.flat (.int .u32 0)], .none⟩ := (ti_eq _ _).trans (by kernel_rfl)
theorem al157 (s : ASt) (d : Nat) : aalloc Tryd.prog s d 157 = s.new d 1 [.flat (.int .u32 0)] (.ptr (s.gh.nm d) s.gen 0) := aalloc_of ti157 s d
theorem bx157 (s : ASt) (d : Nat) (x : AVal) : abox Tryd.prog s d 157 x = (match cellsOf x with | some vs => s.new d 1 vs (.ptr (s.gh.nm d) s.gen 0) | none => none) := abox_of ti157 s d x
theorem ti159 : ti Tryd.prog 159 = some ⟨1, false, 8, [.flat .nilFunc], .none⟩ := (ti_eq _ _).trans (by kernel_rfl)
theorem al159 (s : ASt) (d : Nat) : aalloc Tryd.prog s d 159 = s.new d 1 [.flat .nilFunc] (.ptr (s.gh.nm d) s.gen 0) := aalloc_of ti159 s d
theorem bx159 (s : ASt) (d : Nat) (x : AVal) : abox Tryd.prog s d 159 x = (match cellsOf x with | some vs => s.new d 1 vs (.ptr (s.gh.nm d) s.gen 0) | none => none) := abox_of ti159 s d x
theorem ti166 : ti Tryd.prog 166 = some ⟨3, true, 48, [.flat (.string ByteArray.empty), .flat (.string ByteArray.empty), .flat .nilIface], .struct [(0, 9), (1, 9), (2, 115)]⟩ := (ti_eq _ _).trans (by kernel_rfl)
theorem al166 (s : ASt) (d : Nat) : aalloc Tryd.prog s d 166 = s.new d 3 [.flat (.string ByteArray.empty), .flat (.string ByteArray.empty), .flat .nilIface] (.ptr (s.gh.nm d) s.gen 0) := aalloc_of ti166 s d
theorem bx166 (s : ASt) (d : Nat) (x : AVal) : abox Tryd.prog s d 166 x = (match cellsOf x with | some vs => s.new d 3 vs (.ptr (s.gh.nm d) s.gen 0) | none => none) := abox_of ti166 s d x
theorem ti173 : ti Tryd.prog 173 = some ⟨2, true, 2, [.flat (.int .u8 0), .flat (.int .u8 0)], .struct [(0, 5), (1, 5)]⟩ := (ti_eq _ _).trans (by kernel_rfl)
theorem al173 (s : ASt) (d : Nat) : aalloc Tryd.prog s d 173 = s.new d 2 [.flat (.int .u8 0), .flat (.int .u8 0)] (.ptr (s.gh.nm d) s.gen 0) := aalloc_of ti173 s d
theorem bx173 (s : ASt) (d : Nat) (x : AVal) : abox Tryd.prog s d 173 x = (match cellsOf x with | some vs => s.new d 2 vs (.ptr (s.gh.nm d) s.gen 0) | none => none) := abox_of ti173 s d x
theorem ti177 : ti Tryd.prog 177 = some ⟨1, true, 16, [.flat (.string ByteArray.empty)], .struct [(0, 9)]⟩ := (ti_eq _ _).trans (by kernel_rfl)
theorem al177 (s : ASt) (d : Nat) : aalloc Tryd.prog s d 177 = s.new d 1 [.flat (.string ByteArray.empty)] (.ptr (s.gh.nm d) s.gen 0) := aalloc_of ti177 s d
theorem bx177 (s : ASt) (d : Nat) (x : AVal) : abox Tryd.prog s d 177 x = (match cellsOf x with | some vs => s.new d 1 vs (.ptr (s.gh.nm d) s.gen 0) | none => none) := abox_of ti177 s d x
theorem ti183 : ti Tryd.prog 183 = some ⟨0, true, 0, [], .array 0 16⟩ := (ti_eq _ _).trans (by kernel_rfl)
theorem al183 (s : ASt) (d : Nat) : aalloc Tryd.prog s d 183 = s.new d 0 [] (.ptr (s.gh.nm d) s.gen 0) := aalloc_of ti183 s d
theorem bx183 (s : ASt) (d : Nat) (x : AVal) : abox Tryd.prog s d 183 x = (match cellsOf x with | some vs => s.new d 0 vs (.ptr (s.gh.nm d) s.gen 0) | none => none) := abox_of ti183 s d x
theorem ti192 : ti Tryd.prog 192 = some ⟨11, true, 48, [.flat (.int .u64 0), .flat (.int .u64 0), .flat (.int .u32 0), .flat (.int .u8 0), .flat (.int .u8 0), .flat (.int .u8 0), .flat (.int .u8 0), .flat .nilFunc, .flat (.pointer none), .flat (.int .i32 0), .flat (.int .i32 0)], .struct [(0, 12), (1, 12), (2, 157), (3, 187), (4, 5), (5, 5), (6, 188), (7, 189), (8, 142), (9, 190), (10, 191)]⟩ := (ti_eq _ _).trans (by kernel_rfl)
theorem al192 (s : ASt) (d : Nat) : aalloc Tryd.prog s d 192 = s.new d 11 [.flat (.int .u64 0), .flat (.int .u64 0), .flat (.int .u32 0), .flat (.int .u8 0), .flat (.int .u8 0), .flat (.int .u8 0), .flat (.int .u8 0), .flat .nilFunc, .flat (.pointer none), .flat (.int .i32 0), .flat (.int .i32 0)] (.ptr (s.gh.nm d) s.gen 0) := aalloc_of ti192 s d
theorem bx192 (s : ASt) (d : Nat) (x : AVal) : abox Tryd.prog s d 192 x = (match cellsOf x with | some vs => s.new d 11 vs (.ptr (s.gh.nm d) s.gen 0) | none => none) := abox_of ti192 s d x
theorem sem_neB (x y : Operand) (p q : Bool) : semS Tryd.prog (do eqGuard .neq 4 x y (.bool p) (.bool q); binOp .neq 4 (.bool p) (.bool q)) = some (.flat (.bool (!(p == q)))) := sem_neb Tryd.prog x y p q (by kernel_rfl)
theorem sem_eqB (x y : Operand) (p q : Bool) : semS Tryd.prog (do eqGuard .eql 4 x y (.bool p) (.bool q); binOp .eql 4 (.bool p) (.bool q)) = some (.flat (.bool (p == q))) := sem_eqb Tryd.prog x y p q (by kernel_rfl)
theorem tabS : type_of% (And.intro (And.intro (And.intro (And.intro (And.intro (And.intro (And.intro @ti1 @al1) (And.intro @bx1 @ti2)) (And.intro (And.intro @al2 @bx2) (And.intro @ti3 @al3))) (And.intro (And.intro (And.intro @bx3 @ti4) (And.intro @al4 @bx4)) (And.intro (And.intro @ti5 @al5) (And.intro @bx5 (And.intro @ti9 @al9))))) (And.intro (And.intro (And.intro (And.intro @bx9 @ti12) (And.intro @al12 @bx12)) (And.intro (And.intro @ti21 @al21) (And.intro @bx21 (And.intro @ti22 @al22)))) (And.intro (And.intro (And.intro @bx22 @ti23) (And.intro @al23 @bx23)) (And.intro (And.intro @ti24 @al24) (And.intro @bx24 (And.intro @ti27 @al27)))))) (And.intro (And.intro (And.intro (And.intro (And.intro @bx27 @ti31) (And.intro @al31 @bx31)) (And.intro (And.intro @ti33 @al33) (And.intro @bx33 @ti34))) (And.intro (And.intro (And.intro @al34 @bx34) (And.intro @ti53 @al53)) (And.intro (And.intro @bx53 @ti54) (And.intro @al54 (And.intro @bx54 @ti60))))) (And.intro (And.intro (And.intro (And.intro @al60 @bx60) (And.intro @ti61 @al61)) (And.intro (And.intro @bx61 @ti66) (And.intro @al66 (And.intro @bx66 @ti73)))) (And.intro (And.intro (And.intro @al73 @bx73) (And.intro @ti77 @al77)) (And.intro (And.intro @bx77 @ti80) (And.intro @al80 (And.intro @bx80 @ti82))))))) (And.intro (And.intro (And.intro (And.intro (And.intro (And.intro @al82 @bx82) (And.intro @ti85 @al85)) (And.intro (And.intro @bx85 @ti88) (And.intro @al88 @bx88))) (And.intro (And.intro (And.intro @ti96 @al96) (And.intro @bx96 @ti100)) (And.intro (And.intro @al100 @bx100) (And.intro @ti106 (And.intro @al106 @bx106))))) (And.intro (And.intro (And.intro (And.intro @ti107 @al107) (And.intro @bx107 @ti108)) (And.intro (And.intro @al108 @bx108) (And.intro @ti121 (And.intro @al121 @bx121)))) (And.intro (And.intro (And.intro @ti122 @al122) (And.intro @bx122 @ti123)) (And.intro (And.intro @al123 @bx123) (And.intro @ti129 (And.intro @al129 @bx129)))))) (And.intro (And.intro (And.intro (And.intro (And.intro @ti130 @al130) (And.intro @bx130 @ti135)) (And.intro (And.intro @al135 @bx135) (And.intro @ti142 @al142))) (And.intro (And.intro (And.intro @bx142 @ti157) (And.intro @al157 @bx157)) (And.intro (And.intro @ti159 @al159) (And.intro @bx159 (And.intro @ti166 @al166))))) (And.intro (And.intro (And.intro (And.intro @bx166 @ti173) (And.intro @al173 @bx173)) (And.intro (And.intro @ti177 @al177) (And.intro @bx177 (And.intro @ti183 @al183)))) (And.intro (And.intro (And.intro @bx183 @ti192) (And.intro @al192 @bx192)) (And.intro (And.intro @sem_neB @sem_eqB) (And.intro @glob1 (And.intro @glob6 @glob7)))))))) := (And.intro (And.intro (And.intro (And.intro (And.intro (And.intro (And.intro @ti1 @al1) (And.intro @bx1 @ti2)) (And.intro (And.intro @al2 @bx2) (And.intro @ti3 @al3))) (And.intro (And.intro (And.intro @bx3 @ti4) (And.intro @al4 @bx4)) (And.intro (And.intro @ti5 @al5) (And.intro @bx5 (And.intro @ti9 @al9))))) (And.intro (And.intro (And.intro (And.intro @bx9 @ti12) (And.intro @al12 @bx12)) (And.intro (And.intro @ti21 @al21) (And.intro @bx21 (And.intro @ti22 @al22)))) (And.intro (And.intro (And.intro @bx22 @ti23) (And.intro @al23 @bx23)) (And.intro (And.intro @ti24 @al24) (And.intro @bx24 (And.intro @ti27 @al27)))))) (And.intro (And.intro (And.intro (And.intro (And.intro @bx27 @ti31) (And.intro @al31 @bx31)) (And.intro (And.intro @ti33 @al33) (And.intro @bx33 @ti34))) (And.intro (And.intro (And.intro @al34 @bx34) (And.intro @ti53 @al53)) (And.intro (And.intro @bx53 @ti54) (And.intro @al54 (And.intro @bx54 @ti60))))) (And.intro (And.intro (And.intro (And.intro @al60 @bx60) (And.intro @ti61 @al61)) (And.intro (And.intro @bx61 @ti66) (And.intro @al66 (And.intro @bx66 @ti73)))) (And.intro (And.intro (And.intro @al73 @bx73) (And.intro @ti77 @al77)) (And.intro (And.intro @bx77 @ti80) (And.intro @al80 (And.intro @bx80 @ti82))))))) (And.intro (And.intro (And.intro (And.intro (And.intro (And.intro @al82 @bx82) (And.intro @ti85 @al85)) (And.intro (And.intro @bx85 @ti88) (And.intro @al88 @bx88))) (And.intro (And.intro (And.intro @ti96 @al96) (And.intro @bx96 @ti100)) (And.intro (And.intro @al100 @bx100) (And.intro @ti106 (And.intro @al106 @bx106))))) (And.intro (And.intro (And.intro (And.intro @ti107 @al107) (And.intro @bx107 @ti108)) (And.intro (And.intro @al108 @bx108) (And.intro @ti121 (And.intro @al121 @bx121)))) (And.intro (And.intro (And.intro @ti122 @al122) (And.intro @bx122 @ti123)) (And.intro (And.intro @al123 @bx123) (And.intro @ti129 (And.intro @al129 @bx129)))))) (And.intro (And.intro (And.intro (And.intro (And.intro @ti130 @al130) (And.intro @bx130 @ti135)) (And.intro (And.intro @al135 @bx135) (And.intro @ti142 @al142))) (And.intro (And.intro (And.intro @bx142 @ti157) (And.intro @al157 @bx157)) (And.intro (And.intro @ti159 @al159) (And.intro @bx159 (And.intro @ti166 @al166))))) (And.intro (And.intro (And.intro (And.intro @bx166 @ti173) (And.intro @al173 @bx173)) (And.intro (And.intro @ti177 @al177) (And.intro @bx177 (And.intro @ti183 @al183)))) (And.intro (And.intro (And.intro @bx183 @ti192) (And.intro @al192 @bx192)) (And.intro (And.intro @sem_neB @sem_eqB) (And.intro @glob1 (And.intro @glob6 @glob7))))))))
theorem mixed : Tryd.prog.follows .mixedOrders = true := by kernel_rfl
theorem laidOut : laidOutB Tryd.prog = true := by kernel_rfl
theorem ownK : ownKnob Tryd.prog.godebug = none := by kernel_rfl
end Go.Proofs.YtiaemddmkmfijaaDoor
