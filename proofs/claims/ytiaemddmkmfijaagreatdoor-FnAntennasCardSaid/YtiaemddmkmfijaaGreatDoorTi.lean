/-
  OWN WORK, printed by program: the types of this seat, as the walk over abstract states asks for them.
-/
import Derived.Test.YtiaemddmkmfijaaGreatDoorChecked
import Derived.Test.YtiaemddmkmfijaaGreatDoorOwnM
namespace Go.Proofs.YtiaemddmkmfijaaGreatDoor
open Go Go.Own Go.Proofs
def tab_uint64pow10 : List Int := [1, 10, 100, 1000, 10000, 100000, 1000000, 10000000, 100000000, 1000000000, 10000000000, 100000000000, 1000000000000, 10000000000000, 100000000000000, 1000000000000000, 10000000000000000, 100000000000000000, 1000000000000000000, 10000000000000000000]
def gl_uint64pow10 : List AVal := mapC (fun n => AVal.flat (.int .u64 n)) tab_uint64pow10
def tab_deBruijn32tab : List Int := [0, 1, 28, 2, 29, 14, 24, 3, 30, 22, 20, 15, 25, 17, 4, 8, 31, 27, 13, 23, 21, 19, 16, 7, 26, 12, 18, 6, 11, 5, 10, 9]
def gl_deBruijn32tab : List AVal := mapC (fun n => AVal.flat (.int .u8 n)) tab_deBruijn32tab
def tab_deBruijn64tab : List Int := [0, 1, 56, 2, 57, 49, 28, 3, 61, 58, 42, 50, 38, 29, 17, 4, 62, 47, 59, 36, 45, 43, 51, 22, 53, 39, 33, 30, 24, 18, 12, 5, 63, 55, 48, 27, 60, 41, 37, 16, 46, 35, 44, 21, 52, 32, 23, 11, 54, 26, 40, 15, 34, 20, 31, 10, 25, 14, 19, 9, 13, 8, 7, 6]
def gl_deBruijn64tab : List AVal := mapC (fun n => AVal.flat (.int .u8 n)) tab_deBruijn64tab
instance : GL := ⟨[(1, gl_uint64pow10), (6, gl_deBruijn32tab), (7, gl_deBruijn64tab)], by decide, [(1, tab_uint64pow10.map (Value.int .u64)), (6, tab_deBruijn32tab.map (Value.int .u8)), (7, tab_deBruijn64tab.map (Value.int .u8))], [(0, 0), (2, 1), (3, 1)]⟩
theorem glob1 : globV 1 = .iptr gl_uint64pow10 0 := rfl
theorem glob6 : globV 6 = .iptr gl_deBruijn32tab 0 := rfl
theorem glob7 : globV 7 = .iptr gl_deBruijn64tab 0 := rfl
theorem aalloc_of {P : Program} {t : TypeId} {i : TI} (h : ti P t = some i) (s : ASt) (d : Nat) : aalloc P s d t = s.new d i.size i.zero (.ptr (s.gh.nm d) s.gen 0) := by unfold aalloc; rw [h]
theorem abox_of {P : Program} {t : TypeId} {i : TI} (h : ti P t = some i) (s : ASt) (d : Nat) (x : AVal) : abox P s d t x = (match cellsOf x with | some vs => s.new d i.size vs (.ptr (s.gh.nm d) s.gen 0) | none => none) := by unfold abox; rw [h]; cases cellsOf x <;> rfl
theorem ti1 : ti Tryz.prog 1 = some ⟨1, false, 8, [.flat .nilFunc], .none⟩ := (ti_eq _ _).trans (by kernel_rfl)
theorem al1 (s : ASt) (d : Nat) : aalloc Tryz.prog s d 1 = s.new d 1 [.flat .nilFunc] (.ptr (s.gh.nm d) s.gen 0) := aalloc_of ti1 s d
theorem bx1 (s : ASt) (d : Nat) (x : AVal) : abox Tryz.prog s d 1 x = (match cellsOf x with | some vs => s.new d 1 vs (.ptr (s.gh.nm d) s.gen 0) | none => none) := abox_of ti1 s d x
theorem ti2 : ti Tryz.prog 2 = some ⟨1, false, 8, [.flat (.int .i64 0)], .none⟩ := (ti_eq _ _).trans (by kernel_rfl)
theorem al2 (s : ASt) (d : Nat) : aalloc Tryz.prog s d 2 = s.new d 1 [.flat (.int .i64 0)] (.ptr (s.gh.nm d) s.gen 0) := aalloc_of ti2 s d
theorem bx2 (s : ASt) (d : Nat) (x : AVal) : abox Tryz.prog s d 2 x = (match cellsOf x with | some vs => s.new d 1 vs (.ptr (s.gh.nm d) s.gen 0) | none => none) := abox_of ti2 s d x
theorem ti3 : ti Tryz.prog 3 = some ⟨1, false, 8, [.flat (.int .i64 0)], .none⟩ := (ti_eq _ _).trans (by kernel_rfl)
theorem al3 (s : ASt) (d : Nat) : aalloc Tryz.prog s d 3 = s.new d 1 [.flat (.int .i64 0)] (.ptr (s.gh.nm d) s.gen 0) := aalloc_of ti3 s d
theorem bx3 (s : ASt) (d : Nat) (x : AVal) : abox Tryz.prog s d 3 x = (match cellsOf x with | some vs => s.new d 1 vs (.ptr (s.gh.nm d) s.gen 0) | none => none) := abox_of ti3 s d x
theorem ti4 : ti Tryz.prog 4 = some ⟨1, false, 1, [.flat (.bool false)], .none⟩ := (ti_eq _ _).trans (by kernel_rfl)
theorem al4 (s : ASt) (d : Nat) : aalloc Tryz.prog s d 4 = s.new d 1 [.flat (.bool false)] (.ptr (s.gh.nm d) s.gen 0) := aalloc_of ti4 s d
theorem bx4 (s : ASt) (d : Nat) (x : AVal) : abox Tryz.prog s d 4 x = (match cellsOf x with | some vs => s.new d 1 vs (.ptr (s.gh.nm d) s.gen 0) | none => none) := abox_of ti4 s d x
theorem ti5 : ti Tryz.prog 5 = some ⟨1, false, 1, [.flat (.int .u8 0)], .none⟩ := (ti_eq _ _).trans (by kernel_rfl)
theorem al5 (s : ASt) (d : Nat) : aalloc Tryz.prog s d 5 = s.new d 1 [.flat (.int .u8 0)] (.ptr (s.gh.nm d) s.gen 0) := aalloc_of ti5 s d
theorem bx5 (s : ASt) (d : Nat) (x : AVal) : abox Tryz.prog s d 5 x = (match cellsOf x with | some vs => s.new d 1 vs (.ptr (s.gh.nm d) s.gen 0) | none => none) := abox_of ti5 s d x
theorem ti9 : ti Tryz.prog 9 = some ⟨1, false, 16, [.flat (.string ByteArray.empty)], .str⟩ := (ti_eq _ _).trans (by kernel_rfl)
theorem al9 (s : ASt) (d : Nat) : aalloc Tryz.prog s d 9 = s.new d 1 [.flat (.string ByteArray.empty)] (.ptr (s.gh.nm d) s.gen 0) := aalloc_of ti9 s d
theorem bx9 (s : ASt) (d : Nat) (x : AVal) : abox Tryz.prog s d 9 x = (match cellsOf x with | some vs => s.new d 1 vs (.ptr (s.gh.nm d) s.gen 0) | none => none) := abox_of ti9 s d x
theorem ti12 : ti Tryz.prog 12 = some ⟨1, false, 8, [.flat (.int .u64 0)], .none⟩ := (ti_eq _ _).trans (by kernel_rfl)
theorem al12 (s : ASt) (d : Nat) : aalloc Tryz.prog s d 12 = s.new d 1 [.flat (.int .u64 0)] (.ptr (s.gh.nm d) s.gen 0) := aalloc_of ti12 s d
theorem bx12 (s : ASt) (d : Nat) (x : AVal) : abox Tryz.prog s d 12 x = (match cellsOf x with | some vs => s.new d 1 vs (.ptr (s.gh.nm d) s.gen 0) | none => none) := abox_of ti12 s d x
theorem ti21 : ti Tryz.prog 21 = some ⟨1, false, 4, [.flat (.int .i32 0)], .none⟩ := (ti_eq _ _).trans (by kernel_rfl)
theorem al21 (s : ASt) (d : Nat) : aalloc Tryz.prog s d 21 = s.new d 1 [.flat (.int .i32 0)] (.ptr (s.gh.nm d) s.gen 0) := aalloc_of ti21 s d
theorem bx21 (s : ASt) (d : Nat) (x : AVal) : abox Tryz.prog s d 21 x = (match cellsOf x with | some vs => s.new d 1 vs (.ptr (s.gh.nm d) s.gen 0) | none => none) := abox_of ti21 s d x
theorem ti22 : ti Tryz.prog 22 = some ⟨1, false, 24, [.nl], .slice 5⟩ := (ti_eq _ _).trans (by kernel_rfl)
theorem al22 (s : ASt) (d : Nat) : aalloc Tryz.prog s d 22 = s.new d 1 [.nl] (.ptr (s.gh.nm d) s.gen 0) := aalloc_of ti22 s d
theorem bx22 (s : ASt) (d : Nat) (x : AVal) : abox Tryz.prog s d 22 x = (match cellsOf x with | some vs => s.new d 1 vs (.ptr (s.gh.nm d) s.gen 0) | none => none) := abox_of ti22 s d x
theorem ti24 : ti Tryz.prog 24 = some ⟨1, false, 24, [.nl], .slice 2⟩ := (ti_eq _ _).trans (by kernel_rfl)
theorem al24 (s : ASt) (d : Nat) : aalloc Tryz.prog s d 24 = s.new d 1 [.nl] (.ptr (s.gh.nm d) s.gen 0) := aalloc_of ti24 s d
theorem bx24 (s : ASt) (d : Nat) (x : AVal) : abox Tryz.prog s d 24 x = (match cellsOf x with | some vs => s.new d 1 vs (.ptr (s.gh.nm d) s.gen 0) | none => none) := abox_of ti24 s d x
theorem ti25 : ti Tryz.prog 25 = some ⟨4, true, 72, [.flat (.string ByteArray.empty), .flat (.int .i64 0), .nl, .nl], .struct [(0, 9), (1, 2), (2, 24), (3, 24)]⟩ := (ti_eq _ _).trans (by kernel_rfl)
theorem al25 (s : ASt) (d : Nat) : aalloc Tryz.prog s d 25 = s.new d 4 [.flat (.string ByteArray.empty), .flat (.int .i64 0), .nl, .nl] (.ptr (s.gh.nm d) s.gen 0) := aalloc_of ti25 s d
theorem bx25 (s : ASt) (d : Nat) (x : AVal) : abox Tryz.prog s d 25 x = (match cellsOf x with | some vs => s.new d 4 vs (.ptr (s.gh.nm d) s.gen 0) | none => none) := abox_of ti25 s d x
theorem ti26 : ti Tryz.prog 26 = some ⟨4, true, 72, [.flat (.string ByteArray.empty), .flat (.int .i64 0), .nl, .nl], .struct [(0, 9), (1, 2), (2, 24), (3, 24)]⟩ := (ti_eq _ _).trans (by kernel_rfl)
theorem al26 (s : ASt) (d : Nat) : aalloc Tryz.prog s d 26 = s.new d 4 [.flat (.string ByteArray.empty), .flat (.int .i64 0), .nl, .nl] (.ptr (s.gh.nm d) s.gen 0) := aalloc_of ti26 s d
theorem bx26 (s : ASt) (d : Nat) (x : AVal) : abox Tryz.prog s d 26 x = (match cellsOf x with | some vs => s.new d 4 vs (.ptr (s.gh.nm d) s.gen 0) | none => none) := abox_of ti26 s d x
theorem ti40 : ti Tryz.prog 40 = some ⟨5, true, 72, [.flat (.int .i64 0), .flat (.int .i64 0), .flat (.int .i64 0), .nl, .nl], .struct [(0, 2), (1, 2), (2, 2), (3, 24), (4, 24)]⟩ := (ti_eq _ _).trans (by kernel_rfl)
theorem al40 (s : ASt) (d : Nat) : aalloc Tryz.prog s d 40 = s.new d 5 [.flat (.int .i64 0), .flat (.int .i64 0), .flat (.int .i64 0), .nl, .nl] (.ptr (s.gh.nm d) s.gen 0) := aalloc_of ti40 s d
theorem bx40 (s : ASt) (d : Nat) (x : AVal) : abox Tryz.prog s d 40 x = (match cellsOf x with | some vs => s.new d 5 vs (.ptr (s.gh.nm d) s.gen 0) | none => none) := abox_of ti40 s d x
theorem ti41 : ti Tryz.prog 41 = some ⟨5, true, 72, [.flat (.int .i64 0), .flat (.int .i64 0), .flat (.int .i64 0), .nl, .nl], .struct [(0, 2), (1, 2), (2, 2), (3, 24), (4, 24)]⟩ := (ti_eq _ _).trans (by kernel_rfl)
theorem al41 (s : ASt) (d : Nat) : aalloc Tryz.prog s d 41 = s.new d 5 [.flat (.int .i64 0), .flat (.int .i64 0), .flat (.int .i64 0), .nl, .nl] (.ptr (s.gh.nm d) s.gen 0) := aalloc_of ti41 s d
theorem bx41 (s : ASt) (d : Nat) (x : AVal) : abox Tryz.prog s d 41 x = (match cellsOf x with | some vs => s.new d 5 vs (.ptr (s.gh.nm d) s.gen 0) | none => none) := abox_of ti41 s d x
theorem ti42 : ti Tryz.prog 42 = some ⟨2, true, 16, [.flat (.int .i64 0), .flat (.int .i64 0)], .struct [(0, 2), (1, 2)]⟩ := (ti_eq _ _).trans (by kernel_rfl)
theorem al42 (s : ASt) (d : Nat) : aalloc Tryz.prog s d 42 = s.new d 2 [.flat (.int .i64 0), .flat (.int .i64 0)] (.ptr (s.gh.nm d) s.gen 0) := aalloc_of ti42 s d
theorem bx42 (s : ASt) (d : Nat) (x : AVal) : abox Tryz.prog s d 42 x = (match cellsOf x with | some vs => s.new d 2 vs (.ptr (s.gh.nm d) s.gen 0) | none => none) := abox_of ti42 s d x
theorem ti43 : ti Tryz.prog 43 = some ⟨2, true, 16, [.flat (.int .i64 0), .flat (.int .i64 0)], .struct [(0, 2), (1, 2)]⟩ := (ti_eq _ _).trans (by kernel_rfl)
theorem al43 (s : ASt) (d : Nat) : aalloc Tryz.prog s d 43 = s.new d 2 [.flat (.int .i64 0), .flat (.int .i64 0)] (.ptr (s.gh.nm d) s.gen 0) := aalloc_of ti43 s d
theorem bx43 (s : ASt) (d : Nat) (x : AVal) : abox Tryz.prog s d 43 x = (match cellsOf x with | some vs => s.new d 2 vs (.ptr (s.gh.nm d) s.gen 0) | none => none) := abox_of ti43 s d x
theorem ti57 : ti Tryz.prog 57 = some ⟨1, false, 24, [.nl], .slice 69⟩ := (ti_eq _ _).trans (by kernel_rfl)
theorem al57 (s : ASt) (d : Nat) : aalloc Tryz.prog s d 57 = s.new d 1 [.nl] (.ptr (s.gh.nm d) s.gen 0) := aalloc_of ti57 s d
theorem bx57 (s : ASt) (d : Nat) (x : AVal) : abox Tryz.prog s d 57 x = (match cellsOf x with | some vs => s.new d 1 vs (.ptr (s.gh.nm d) s.gen 0) | none => none) := abox_of ti57 s d x
theorem ti58 : ti Tryz.prog 58 = some ⟨6, true, 72, [.flat (.string ByteArray.empty), .flat (.int .i64 0), .flat (.int .i64 0), .flat (.int .i64 0), .flat (.int .i64 0), .nl], .struct [(0, 9), (1, 2), (2, 2), (3, 2), (4, 2), (5, 57)]⟩ := (ti_eq _ _).trans (by kernel_rfl)
theorem al58 (s : ASt) (d : Nat) : aalloc Tryz.prog s d 58 = s.new d 6 [.flat (.string ByteArray.empty), .flat (.int .i64 0), .flat (.int .i64 0), .flat (.int .i64 0), .flat (.int .i64 0), .nl] (.ptr (s.gh.nm d) s.gen 0) := aalloc_of ti58 s d
theorem bx58 (s : ASt) (d : Nat) (x : AVal) : abox Tryz.prog s d 58 x = (match cellsOf x with | some vs => s.new d 6 vs (.ptr (s.gh.nm d) s.gen 0) | none => none) := abox_of ti58 s d x
theorem ti59 : ti Tryz.prog 59 = some ⟨6, true, 72, [.flat (.string ByteArray.empty), .flat (.int .i64 0), .flat (.int .i64 0), .flat (.int .i64 0), .flat (.int .i64 0), .nl], .struct [(0, 9), (1, 2), (2, 2), (3, 2), (4, 2), (5, 57)]⟩ := (ti_eq _ _).trans (by kernel_rfl)
theorem al59 (s : ASt) (d : Nat) : aalloc Tryz.prog s d 59 = s.new d 6 [.flat (.string ByteArray.empty), .flat (.int .i64 0), .flat (.int .i64 0), .flat (.int .i64 0), .flat (.int .i64 0), .nl] (.ptr (s.gh.nm d) s.gen 0) := aalloc_of ti59 s d
theorem bx59 (s : ASt) (d : Nat) (x : AVal) : abox Tryz.prog s d 59 x = (match cellsOf x with | some vs => s.new d 6 vs (.ptr (s.gh.nm d) s.gen 0) | none => none) := abox_of ti59 s d x
theorem ti68 : ti Tryz.prog 68 = some ⟨2, true, 16, [.flat (.int .i64 0), .flat (.int .i64 0)], .struct [(0, 2), (1, 2)]⟩ := (ti_eq _ _).trans (by kernel_rfl)
theorem al68 (s : ASt) (d : Nat) : aalloc Tryz.prog s d 68 = s.new d 2 [.flat (.int .i64 0), .flat (.int .i64 0)] (.ptr (s.gh.nm d) s.gen 0) := aalloc_of ti68 s d
theorem bx68 (s : ASt) (d : Nat) (x : AVal) : abox Tryz.prog s d 68 x = (match cellsOf x with | some vs => s.new d 2 vs (.ptr (s.gh.nm d) s.gen 0) | none => none) := abox_of ti68 s d x
theorem ti69 : ti Tryz.prog 69 = some ⟨2, true, 16, [.flat (.int .i64 0), .flat (.int .i64 0)], .struct [(0, 2), (1, 2)]⟩ := (ti_eq _ _).trans (by kernel_rfl)
theorem al69 (s : ASt) (d : Nat) : aalloc Tryz.prog s d 69 = s.new d 2 [.flat (.int .i64 0), .flat (.int .i64 0)] (.ptr (s.gh.nm d) s.gen 0) := aalloc_of ti69 s d
theorem bx69 (s : ASt) (d : Nat) (x : AVal) : abox Tryz.prog s d 69 x = (match cellsOf x with | some vs => s.new d 2 vs (.ptr (s.gh.nm d) s.gen 0) | none => none) := abox_of ti69 s d x
theorem ti76 : ti Tryz.prog 76 = some ⟨2, true, 48, [.nl, .nl], .struct [(0, 24), (1, 24)]⟩ := (ti_eq _ _).trans (by kernel_rfl)
theorem al76 (s : ASt) (d : Nat) : aalloc Tryz.prog s d 76 = s.new d 2 [.nl, .nl] (.ptr (s.gh.nm d) s.gen 0) := aalloc_of ti76 s d
theorem bx76 (s : ASt) (d : Nat) (x : AVal) : abox Tryz.prog s d 76 x = (match cellsOf x with | some vs => s.new d 2 vs (.ptr (s.gh.nm d) s.gen 0) | none => none) := abox_of ti76 s d x
theorem ti77 : ti Tryz.prog 77 = some ⟨2, true, 48, [.nl, .nl], .struct [(0, 24), (1, 24)]⟩ := (ti_eq _ _).trans (by kernel_rfl)
theorem al77 (s : ASt) (d : Nat) : aalloc Tryz.prog s d 77 = s.new d 2 [.nl, .nl] (.ptr (s.gh.nm d) s.gen 0) := aalloc_of ti77 s d
theorem bx77 (s : ASt) (d : Nat) (x : AVal) : abox Tryz.prog s d 77 x = (match cellsOf x with | some vs => s.new d 2 vs (.ptr (s.gh.nm d) s.gen 0) | none => none) := abox_of ti77 s d x
theorem ti87 : ti Tryz.prog 87 = some ⟨1, false, 8, [.flat (.pointer none)], .none⟩ := (ti_eq _ _).trans (by kernel_rfl)
theorem al87 (s : ASt) (d : Nat) : aalloc Tryz.prog s d 87 = s.new d 1 [.flat (.pointer none)] (.ptr (s.gh.nm d) s.gen 0) := aalloc_of ti87 s d
theorem bx87 (s : ASt) (d : Nat) (x : AVal) : abox Tryz.prog s d 87 x = (match cellsOf x with | some vs => s.new d 1 vs (.ptr (s.gh.nm d) s.gen 0) | none => none) := abox_of ti87 s d x
theorem ti92 : ti Tryz.prog 92 = some ⟨1, false, 8, [.flat (.pointer none)], .none⟩ := (ti_eq _ _).trans (by kernel_rfl)
theorem al92 (s : ASt) (d : Nat) : aalloc Tryz.prog s d 92 = s.new d 1 [.flat (.pointer none)] (.ptr (s.gh.nm d) s.gen 0) := aalloc_of ti92 s d
theorem bx92 (s : ASt) (d : Nat) (x : AVal) : abox Tryz.prog s d 92 x = (match cellsOf x with | some vs => s.new d 1 vs (.ptr (s.gh.nm d) s.gen 0) | none => none) := abox_of ti92 s d x
theorem ti95 : ti Tryz.prog 95 = some ⟨1, false, 8, [.flat .nilFunc], .none⟩ := (ti_eq _ _).trans (by kernel_rfl)
theorem al95 (s : ASt) (d : Nat) : aalloc Tryz.prog s d 95 = s.new d 1 [.flat .nilFunc] (.ptr (s.gh.nm d) s.gen 0) := aalloc_of ti95 s d
theorem bx95 (s : ASt) (d : Nat) (x : AVal) : abox Tryz.prog s d 95 x = (match cellsOf x with | some vs => s.new d 1 vs (.ptr (s.gh.nm d) s.gen 0) | none => none) := abox_of ti95 s d x
theorem ti96 : ti Tryz.prog 96 = some ⟨1, false, 24, [.nl], .slice 9⟩ := (ti_eq _ _).trans (by kernel_rfl)
theorem al96 (s : ASt) (d : Nat) : aalloc Tryz.prog s d 96 = s.new d 1 [.nl] (.ptr (s.gh.nm d) s.gen 0) := aalloc_of ti96 s d
theorem bx96 (s : ASt) (d : Nat) (x : AVal) : abox Tryz.prog s d 96 x = (match cellsOf x with | some vs => s.new d 1 vs (.ptr (s.gh.nm d) s.gen 0) | none => none) := abox_of ti96 s d x
theorem ti105 : ti Tryz.prog 105 = some ⟨1, false, 8, [.flat (.pointer none)], .none⟩ := (ti_eq _ _).trans (by kernel_rfl)
theorem al105 (s : ASt) (d : Nat) : aalloc Tryz.prog s d 105 = s.new d 1 [.flat (.pointer none)] (.ptr (s.gh.nm d) s.gen 0) := aalloc_of ti105 s d
theorem bx105 (s : ASt) (d : Nat) (x : AVal) : abox Tryz.prog s d 105 x = (match cellsOf x with | some vs => s.new d 1 vs (.ptr (s.gh.nm d) s.gen 0) | none => none) := abox_of ti105 s d x
theorem ti107 : ti Tryz.prog 107 = some ⟨1, false, 8, [.flat .nilFunc], .none⟩ := (ti_eq _ _).trans (by kernel_rfl)
theorem al107 (s : ASt) (d : Nat) : aalloc Tryz.prog s d 107 = s.new d 1 [.flat .nilFunc] (.ptr (s.gh.nm d) s.gen 0) := aalloc_of ti107 s d
theorem bx107 (s : ASt) (d : Nat) (x : AVal) : abox Tryz.prog s d 107 x = (match cellsOf x with | some vs => s.new d 1 vs (.ptr (s.gh.nm d) s.gen 0) | none => none) := abox_of ti107 s d x
theorem ti113 : ti Tryz.prog 113 = some ⟨3, true, 24, [.flat (.int .i64 0), .flat (.int .i64 0), .flat (.int .i64 0)], .array 3 2⟩ := (ti_eq _ _).trans (by kernel_rfl)
theorem al113 (s : ASt) (d : Nat) : aalloc Tryz.prog s d 113 = s.new d 3 [.flat (.int .i64 0), .flat (.int .i64 0), .flat (.int .i64 0)] (.ptr (s.gh.nm d) s.gen 0) := aalloc_of ti113 s d
theorem bx113 (s : ASt) (d : Nat) (x : AVal) : abox Tryz.prog s d 113 x = (match cellsOf x with | some vs => s.new d 3 vs (.ptr (s.gh.nm d) s.gen 0) | none => none) := abox_of ti113 s d x
theorem ti118 : ti Tryz.prog 118 = some ⟨1, false, 8, [.flat .nilFunc], .none⟩ := (ti_eq _ _).trans (by kernel_rfl)
theorem al118 (s : ASt) (d : Nat) : aalloc Tryz.prog s d 118 = s.new d 1 [.flat .nilFunc] (.ptr (s.gh.nm d) s.gen 0) := aalloc_of ti118 s d
theorem bx118 (s : ASt) (d : Nat) (x : AVal) : abox Tryz.prog s d 118 x = (match cellsOf x with | some vs => s.new d 1 vs (.ptr (s.gh.nm d) s.gen 0) | none => none) := abox_of ti118 s d x
theorem ti122 : ti Tryz.prog 122 = some ⟨1, false, 8, [.flat (.pointer none)], .none⟩ := (ti_eq _ _).trans (by kernel_rfl)
theorem al122 (s : ASt) (d : Nat) : aalloc Tryz.prog s d 122 = s.new d 1 [.flat (.pointer none)] (.ptr (s.gh.nm d) s.gen 0) := aalloc_of ti122 s d
theorem bx122 (s : ASt) (d : Nat) (x : AVal) : abox Tryz.prog s d 122 x = (match cellsOf x with | some vs => s.new d 1 vs (.ptr (s.gh.nm d) s.gen 0) | none => none) := abox_of ti122 s d x
theorem ti124 : ti Tryz.prog 124 = some ⟨4, true, 32, [.flat (.int .i64 0), .flat (.int .i64 0), .flat (.int .i64 0), .flat (.int .i64 0)], .array 4 2⟩ := (ti_eq _ _).trans (by kernel_rfl)
theorem al124 (s : ASt) (d : Nat) : aalloc Tryz.prog s d 124 = s.new d 4 [.flat (.int .i64 0), .flat (.int .i64 0), .flat (.int .i64 0), .flat (.int .i64 0)] (.ptr (s.gh.nm d) s.gen 0) := aalloc_of ti124 s d
theorem bx124 (s : ASt) (d : Nat) (x : AVal) : abox Tryz.prog s d 124 x = (match cellsOf x with | some vs => s.new d 4 vs (.ptr (s.gh.nm d) s.gen 0) | none => none) := abox_of ti124 s d x
theorem ti132 : ti Tryz.prog 132 = some ⟨1, false, 8, [.flat (.pointer none)], .none⟩ := (ti_eq _ _).trans (by kernel_rfl)
theorem al132 (s : ASt) (d : Nat) : aalloc Tryz.prog s d 132 = s.new d 1 [.flat (.pointer none)] (.ptr (s.gh.nm d) s.gen 0) := aalloc_of ti132 s d
theorem bx132 (s : ASt) (d : Nat) (x : AVal) : abox Tryz.prog s d 132 x = (match cellsOf x with | some vs => s.new d 1 vs (.ptr (s.gh.nm d) s.gen 0) | none => none) := abox_of ti132 s d x
theorem ti133 : ti Tryz.prog 133 = some ⟨1, false, 8, [.flat (.int .u64 0)], .none⟩ := (ti_eq _ _).trans (by kernel_rfl)
theorem al133 (s : ASt) (d : Nat) : aalloc Tryz.prog s d 133 = s.new d 1 [.flat (.int .u64 0)] (.ptr (s.gh.nm d) s.gen 0) := aalloc_of ti133 s d
theorem bx133 (s : ASt) (d : Nat) (x : AVal) : abox Tryz.prog s d 133 x = (match cellsOf x with | some vs => s.new d 1 vs (.ptr (s.gh.nm d) s.gen 0) | none => none) := abox_of ti133 s d x
theorem ti134 : ti Tryz.prog 134 = some ⟨3, true, 40, [.nl, .flat (.int .i64 0), .flat (.int .u64 0)], .struct [(0, 22), (1, 3), (2, 133)]⟩ := (ti_eq _ _).trans (by kernel_rfl)
theorem al134 (s : ASt) (d : Nat) : aalloc Tryz.prog s d 134 = s.new d 3 [.nl, .flat (.int .i64 0), .flat (.int .u64 0)] (.ptr (s.gh.nm d) s.gen 0) := aalloc_of ti134 s d
theorem bx134 (s : ASt) (d : Nat) (x : AVal) : abox Tryz.prog s d 134 x = (match cellsOf x with | some vs => s.new d 3 vs (.ptr (s.gh.nm d) s.gen 0) | none => none) := abox_of ti134 s d x
theorem ti135 : ti Tryz.prog 135 = some ⟨3, true, 40, [.nl, .flat (.int .i64 0), .flat (.int .u64 0)], .struct [(0, 22), (1, 3), (2, 133)]⟩ := (ti_eq _ _).trans (by kernel_rfl)
theorem al135 (s : ASt) (d : Nat) : aalloc Tryz.prog s d 135 = s.new d 3 [.nl, .flat (.int .i64 0), .flat (.int .u64 0)] (.ptr (s.gh.nm d) s.gen 0) := aalloc_of ti135 s d
theorem bx135 (s : ASt) (d : Nat) (x : AVal) : abox Tryz.prog s d 135 x = (match cellsOf x with | some vs => s.new d 3 vs (.ptr (s.gh.nm d) s.gen 0) | none => none) := abox_of ti135 s d x
theorem ti148 : ti Tryz.prog 148 = some ⟨1, false, 8, [.flat .nilFunc], .none⟩ := (ti_eq _ _).trans (by kernel_rfl)
theorem al148 (s : ASt) (d : Nat) : aalloc Tryz.prog s d 148 = s.new d 1 [.flat .nilFunc] (.ptr (s.gh.nm d) s.gen 0) := aalloc_of ti148 s d
theorem bx148 (s : ASt) (d : Nat) (x : AVal) : abox Tryz.prog s d 148 x = (match cellsOf x with | some vs => s.new d 1 vs (.ptr (s.gh.nm d) s.gen 0) | none => none) := abox_of ti148 s d x
theorem ti149 : ti Tryz.prog 149 = some ⟨1, false, 8, [.flat (.pointer none)], .none⟩ := (ti_eq _ _).trans (by kernel_rfl)
theorem al149 (s : ASt) (d : Nat) : aalloc Tryz.prog s d 149 = s.new d 1 [.flat (.pointer none)] (.ptr (s.gh.nm d) s.gen 0) := aalloc_of ti149 s d
theorem bx149 (s : ASt) (d : Nat) (x : AVal) : abox Tryz.prog s d 149 x = (match cellsOf x with | some vs => s.new d 1 vs (.ptr (s.gh.nm d) s.gen 0) | none => none) := abox_of ti149 s d x
theorem ti150 : ti Tryz.prog 150 = some ⟨2, true, 32, [.flat (.pointer none), .nl], .struct [(0, 149), (1, 22)]⟩ := (ti_eq _ _).trans (by kernel_rfl)
theorem al150 (s : ASt) (d : Nat) : aalloc Tryz.prog s d 150 = s.new d 2 [.flat (.pointer none), .nl] (.ptr (s.gh.nm d) s.gen 0) := aalloc_of ti150 s d
theorem bx150 (s : ASt) (d : Nat) (x : AVal) : abox Tryz.prog s d 150 x = (match cellsOf x with | some vs => s.new d 2 vs (.ptr (s.gh.nm d) s.gen 0) | none => none) := abox_of ti150 s d x
theorem ti151 : ti Tryz.prog 151 = some ⟨2, true, 32, [.flat (.pointer none), .nl], .struct [(0, 149), (1, 22)]⟩ := (ti_eq _ _).trans (by kernel_rfl)
theorem al151 (s : ASt) (d : Nat) : aalloc Tryz.prog s d 151 = s.new d 2 [.flat (.pointer none), .nl] (.ptr (s.gh.nm d) s.gen 0) := aalloc_of ti151 s d
theorem bx151 (s : ASt) (d : Nat) (x : AVal) : abox Tryz.prog s d 151 x = (match cellsOf x with | some vs => s.new d 2 vs (.ptr (s.gh.nm d) s.gen 0) | none => none) := abox_of ti151 s d x
theorem ti157 : ti Tryz.prog 157 = some ⟨1, false, 8, [.flat .nilFunc], .none⟩ := (ti_eq _ _).trans (by kernel_rfl)
theorem al157 (s : ASt) (d : Nat) : aalloc Tryz.prog s d 157 = s.new d 1 [.flat .nilFunc] (.ptr (s.gh.nm d) s.gen 0) := aalloc_of ti157 s d
theorem bx157 (s : ASt) (d : Nat) (x : AVal) : abox Tryz.prog s d 157 x = (match cellsOf x with | some vs => s.new d 1 vs (.ptr (s.gh.nm d) s.gen 0) | none => none) := abox_of ti157 s d x
theorem ti160 : ti Tryz.prog 160 = some ⟨1, false, 8, [.flat .nilFunc], .none⟩ := (ti_eq _ _).trans (by kernel_rfl)
theorem al160 (s : ASt) (d : Nat) : aalloc Tryz.prog s d 160 = s.new d 1 [.flat .nilFunc] (.ptr (s.gh.nm d) s.gen 0) := aalloc_of ti160 s d
theorem bx160 (s : ASt) (d : Nat) (x : AVal) : abox Tryz.prog s d 160 x = (match cellsOf x with | some vs => s.new d 1 vs (.ptr (s.gh.nm d) s.gen 0) | none => none) := abox_of ti160 s d x
theorem ti161 : ti Tryz.prog 161 = some ⟨1, false, 24, [.nl], .slice 24⟩ := (ti_eq _ _).trans (by kernel_rfl)
theorem al161 (s : ASt) (d : Nat) : aalloc Tryz.prog s d 161 = s.new d 1 [.nl] (.ptr (s.gh.nm d) s.gen 0) := aalloc_of ti161 s d
theorem bx161 (s : ASt) (d : Nat) (x : AVal) : abox Tryz.prog s d 161 x = (match cellsOf x with | some vs => s.new d 1 vs (.ptr (s.gh.nm d) s.gen 0) | none => none) := abox_of ti161 s d x
theorem ti165 : ti Tryz.prog 165 = some ⟨1, false, 8, [.flat (.int .u64 0)], .none⟩ := (ti_eq _ _).trans (by kernel_rfl)
theorem al165 (s : ASt) (d : Nat) : aalloc Tryz.prog s d 165 = s.new d 1 [.flat (.int .u64 0)] (.ptr (s.gh.nm d) s.gen 0) := aalloc_of ti165 s d
theorem bx165 (s : ASt) (d : Nat) (x : AVal) : abox Tryz.prog s d 165 x = (match cellsOf x with | some vs => s.new d 1 vs (.ptr (s.gh.nm d) s.gen 0) | none => none) := abox_of ti165 s d x
theorem ti174 : ti Tryz.prog 174 = some ⟨2, true, 16, [.flat (.int .i64 0), .flat (.int .i64 0)], .struct [(0, 2), (1, 2)]⟩ := (ti_eq _ _).trans (by kernel_rfl)
theorem al174 (s : ASt) (d : Nat) : aalloc Tryz.prog s d 174 = s.new d 2 [.flat (.int .i64 0), .flat (.int .i64 0)] (.ptr (s.gh.nm d) s.gen 0) := aalloc_of ti174 s d
theorem bx174 (s : ASt) (d : Nat) (x : AVal) : abox Tryz.prog s d 174 x = (match cellsOf x with | some vs => s.new d 2 vs (.ptr (s.gh.nm d) s.gen 0) | none => none) := abox_of ti174 s d x
theorem ti175 : ti Tryz.prog 175 = some ⟨2, true, 16, [.flat (.int .i64 0), .flat (.int .i64 0)], .struct [(0, 2), (1, 2)]⟩ := (ti_eq _ _).trans (by kernel_rfl)
theorem al175 (s : ASt) (d : Nat) : aalloc Tryz.prog s d 175 = s.new d 2 [.flat (.int .i64 0), .flat (.int .i64 0)] (.ptr (s.gh.nm d) s.gen 0) := aalloc_of ti175 s d
theorem bx175 (s : ASt) (d : Nat) (x : AVal) : abox Tryz.prog s d 175 x = (match cellsOf x with | some vs => s.new d 2 vs (.ptr (s.gh.nm d) s.gen 0) | none => none) := abox_of ti175 s d x
theorem ti177 : ti Tryz.prog 177 = some ⟨1, false, 8, [.flat (.pointer none)], .none⟩ := (ti_eq _ _).trans (by kernel_rfl)
theorem al177 (s : ASt) (d : Nat) : aalloc Tryz.prog s d 177 = s.new d 1 [.flat (.pointer none)] (.ptr (s.gh.nm d) s.gen 0) := aalloc_of ti177 s d
theorem bx177 (s : ASt) (d : Nat) (x : AVal) : abox Tryz.prog s d 177 x = (match cellsOf x with | some vs => s.new d 1 vs (.ptr (s.gh.nm d) s.gen 0) | none => none) := abox_of ti177 s d x
theorem ti187 : ti Tryz.prog 187 = some ⟨1, false, 4, [.flat (.int .u32 0)], .none⟩ := (ti_eq _ _).trans (by kernel_rfl)
theorem al187 (s : ASt) (d : Nat) : aalloc Tryz.prog s d 187 = s.new d 1 [.flat (.int .u32 0)] (.ptr (s.gh.nm d) s.gen 0) := aalloc_of ti187 s d
theorem bx187 (s : ASt) (d : Nat) (x : AVal) : abox Tryz.prog s d 187 x = (match cellsOf x with | some vs => s.new d 1 vs (.ptr (s.gh.nm d) s.gen 0) | none => none) := abox_of ti187 s d x
theorem ti214 : ti Tryz.prog 214 = some ⟨1, false, 8, [.flat (.pointer none)], .none⟩ := (ti_eq _ _).trans (by kernel_rfl)
theorem al214 (s : ASt) (d : Nat) : aalloc Tryz.prog s d 214 = s.new d 1 [.flat (.pointer none)] (.ptr (s.gh.nm d) s.gen 0) := aalloc_of ti214 s d
theorem bx214 (s : ASt) (d : Nat) (x : AVal) : abox Tryz.prog s d 214 x = (match cellsOf x with | some vs => s.new d 1 vs (.ptr (s.gh.nm d) s.gen 0) | none => none) := abox_of ti214 s d x
theorem ti221 : ti Tryz.prog 221 = some ⟨3, true, 48, [.flat (.string ByteArray.empty), .flat (.string ByteArray.empty), .flat .nilIface], .struct [(0, 9), (1, 9), (2, 144)]⟩ := (ti_eq _ _).trans (by kernel_rfl)
theorem al221 (s : ASt) (d : Nat) : aalloc Tryz.prog s d 221 = s.new d 3 [.flat (.string ByteArray.empty), .flat (.string ByteArray.empty), .flat .nilIface] (.ptr (s.gh.nm d) s.gen 0) := aalloc_of ti221 s d
theorem bx221 (s : ASt) (d : Nat) (x : AVal) : abox Tryz.prog s d 221 x = (match cellsOf x with | some vs => s.new d 3 vs (.ptr (s.gh.nm d) s.gen 0) | none => none) := abox_of ti221 s d x
theorem ti230 : ti Tryz.prog 230 = some ⟨2, true, 2, [.flat (.int .u8 0), .flat (.int .u8 0)], .struct [(0, 5), (1, 5)]⟩ := (ti_eq _ _).trans (by kernel_rfl)
theorem al230 (s : ASt) (d : Nat) : aalloc Tryz.prog s d 230 = s.new d 2 [.flat (.int .u8 0), .flat (.int .u8 0)] (.ptr (s.gh.nm d) s.gen 0) := aalloc_of ti230 s d
theorem bx230 (s : ASt) (d : Nat) (x : AVal) : abox Tryz.prog s d 230 x = (match cellsOf x with | some vs => s.new d 2 vs (.ptr (s.gh.nm d) s.gen 0) | none => none) := abox_of ti230 s d x
theorem ti234 : ti Tryz.prog 234 = some ⟨1, true, 16, [.flat (.string ByteArray.empty)], .struct [(0, 9)]⟩ := (ti_eq _ _).trans (by kernel_rfl)
theorem al234 (s : ASt) (d : Nat) : aalloc Tryz.prog s d 234 = s.new d 1 [.flat (.string ByteArray.empty)] (.ptr (s.gh.nm d) s.gen 0) := aalloc_of ti234 s d
theorem bx234 (s : ASt) (d : Nat) (x : AVal) : abox Tryz.prog s d 234 x = (match cellsOf x with | some vs => s.new d 1 vs (.ptr (s.gh.nm d) s.gen 0) | none => none) := abox_of ti234 s d x
theorem ti240 : ti Tryz.prog 240 = some ⟨0, true, 0, [], .array 0 16⟩ := (ti_eq _ _).trans (by kernel_rfl)
theorem al240 (s : ASt) (d : Nat) : aalloc Tryz.prog s d 240 = s.new d 0 [] (.ptr (s.gh.nm d) s.gen 0) := aalloc_of ti240 s d
theorem bx240 (s : ASt) (d : Nat) (x : AVal) : abox Tryz.prog s d 240 x = (match cellsOf x with | some vs => s.new d 0 vs (.ptr (s.gh.nm d) s.gen 0) | none => none) := abox_of ti240 s d x
theorem ti249 : ti Tryz.prog 249 = some ⟨11, true, 48, [.flat (.int .u64 0), .flat (.int .u64 0), .flat (.int .u32 0), .flat (.int .u8 0), .flat (.int .u8 0), .flat (.int .u8 0), .flat (.int .u8 0), .flat .nilFunc, .flat (.pointer none), .flat (.int .i32 0), .flat (.int .i32 0)], .struct [(0, 12), (1, 12), (2, 187), (3, 244), (4, 5), (5, 5), (6, 245), (7, 246), (8, 177), (9, 247), (10, 248)]⟩ := (ti_eq _ _).trans (by kernel_rfl)
theorem al249 (s : ASt) (d : Nat) : aalloc Tryz.prog s d 249 = s.new d 11 [.flat (.int .u64 0), .flat (.int .u64 0), .flat (.int .u32 0), .flat (.int .u8 0), .flat (.int .u8 0), .flat (.int .u8 0), .flat (.int .u8 0), .flat .nilFunc, .flat (.pointer none), .flat (.int .i32 0), .flat (.int .i32 0)] (.ptr (s.gh.nm d) s.gen 0) := aalloc_of ti249 s d
theorem bx249 (s : ASt) (d : Nat) (x : AVal) : abox Tryz.prog s d 249 x = (match cellsOf x with | some vs => s.new d 11 vs (.ptr (s.gh.nm d) s.gen 0) | none => none) := abox_of ti249 s d x
theorem sem_neB (x y : Operand) (p q : Bool) : semS Tryz.prog (do eqGuard .neq 4 x y (.bool p) (.bool q); binOp .neq 4 (.bool p) (.bool q)) = some (.flat (.bool (!(p == q)))) := sem_neb Tryz.prog x y p q (by kernel_rfl)
theorem sem_eqB (x y : Operand) (p q : Bool) : semS Tryz.prog (do eqGuard .eql 4 x y (.bool p) (.bool q); binOp .eql 4 (.bool p) (.bool q)) = some (.flat (.bool (p == q))) := sem_eqb Tryz.prog x y p q (by kernel_rfl)
theorem tabS : type_of% (And.intro (And.intro (And.intro (And.intro (And.intro (And.intro (And.intro @ti1 @al1) (And.intro @bx1 (And.intro @ti2 @al2))) (And.intro (And.intro @bx2 @ti3) (And.intro @al3 (And.intro @bx3 @ti4)))) (And.intro (And.intro (And.intro @al4 @bx4) (And.intro @ti5 (And.intro @al5 @bx5))) (And.intro (And.intro @ti9 (And.intro @al9 @bx9)) (And.intro @ti12 (And.intro @al12 @bx12))))) (And.intro (And.intro (And.intro (And.intro @ti21 @al21) (And.intro @bx21 (And.intro @ti22 @al22))) (And.intro (And.intro @bx22 @ti24) (And.intro @al24 (And.intro @bx24 @ti25)))) (And.intro (And.intro (And.intro @al25 @bx25) (And.intro @ti26 (And.intro @al26 @bx26))) (And.intro (And.intro @ti40 (And.intro @al40 @bx40)) (And.intro @ti41 (And.intro @al41 @bx41)))))) (And.intro (And.intro (And.intro (And.intro (And.intro @ti42 @al42) (And.intro @bx42 (And.intro @ti43 @al43))) (And.intro (And.intro @bx43 @ti57) (And.intro @al57 (And.intro @bx57 @ti58)))) (And.intro (And.intro (And.intro @al58 @bx58) (And.intro @ti59 (And.intro @al59 @bx59))) (And.intro (And.intro @ti68 (And.intro @al68 @bx68)) (And.intro @ti69 (And.intro @al69 @bx69))))) (And.intro (And.intro (And.intro (And.intro @ti76 @al76) (And.intro @bx76 (And.intro @ti77 @al77))) (And.intro (And.intro @bx77 (And.intro @ti87 @al87)) (And.intro @bx87 (And.intro @ti92 @al92)))) (And.intro (And.intro (And.intro @bx92 @ti95) (And.intro @al95 (And.intro @bx95 @ti96))) (And.intro (And.intro @al96 (And.intro @bx96 @ti105)) (And.intro @al105 (And.intro @bx105 @ti107))))))) (And.intro (And.intro (And.intro (And.intro (And.intro (And.intro @al107 @bx107) (And.intro @ti113 (And.intro @al113 @bx113))) (And.intro (And.intro @ti118 @al118) (And.intro @bx118 (And.intro @ti122 @al122)))) (And.intro (And.intro (And.intro @bx122 @ti124) (And.intro @al124 (And.intro @bx124 @ti132))) (And.intro (And.intro @al132 (And.intro @bx132 @ti133)) (And.intro @al133 (And.intro @bx133 @ti134))))) (And.intro (And.intro (And.intro (And.intro @al134 @bx134) (And.intro @ti135 (And.intro @al135 @bx135))) (And.intro (And.intro @ti148 @al148) (And.intro @bx148 (And.intro @ti149 @al149)))) (And.intro (And.intro (And.intro @bx149 @ti150) (And.intro @al150 (And.intro @bx150 @ti151))) (And.intro (And.intro @al151 (And.intro @bx151 @ti157)) (And.intro @al157 (And.intro @bx157 @ti160)))))) (And.intro (And.intro (And.intro (And.intro (And.intro @al160 @bx160) (And.intro @ti161 (And.intro @al161 @bx161))) (And.intro (And.intro @ti165 @al165) (And.intro @bx165 (And.intro @ti174 @al174)))) (And.intro (And.intro (And.intro @bx174 @ti175) (And.intro @al175 (And.intro @bx175 @ti177))) (And.intro (And.intro @al177 (And.intro @bx177 @ti187)) (And.intro @al187 (And.intro @bx187 @ti214))))) (And.intro (And.intro (And.intro (And.intro @al214 @bx214) (And.intro @ti221 (And.intro @al221 @bx221))) (And.intro (And.intro @ti230 (And.intro @al230 @bx230)) (And.intro @ti234 (And.intro @al234 @bx234)))) (And.intro (And.intro (And.intro @ti240 @al240) (And.intro @bx240 (And.intro @ti249 @al249))) (And.intro (And.intro @bx249 (And.intro @sem_neB @sem_eqB)) (And.intro @glob1 (And.intro @glob6 @glob7)))))))) := (And.intro (And.intro (And.intro (And.intro (And.intro (And.intro (And.intro @ti1 @al1) (And.intro @bx1 (And.intro @ti2 @al2))) (And.intro (And.intro @bx2 @ti3) (And.intro @al3 (And.intro @bx3 @ti4)))) (And.intro (And.intro (And.intro @al4 @bx4) (And.intro @ti5 (And.intro @al5 @bx5))) (And.intro (And.intro @ti9 (And.intro @al9 @bx9)) (And.intro @ti12 (And.intro @al12 @bx12))))) (And.intro (And.intro (And.intro (And.intro @ti21 @al21) (And.intro @bx21 (And.intro @ti22 @al22))) (And.intro (And.intro @bx22 @ti24) (And.intro @al24 (And.intro @bx24 @ti25)))) (And.intro (And.intro (And.intro @al25 @bx25) (And.intro @ti26 (And.intro @al26 @bx26))) (And.intro (And.intro @ti40 (And.intro @al40 @bx40)) (And.intro @ti41 (And.intro @al41 @bx41)))))) (And.intro (And.intro (And.intro (And.intro (And.intro @ti42 @al42) (And.intro @bx42 (And.intro @ti43 @al43))) (And.intro (And.intro @bx43 @ti57) (And.intro @al57 (And.intro @bx57 @ti58)))) (And.intro (And.intro (And.intro @al58 @bx58) (And.intro @ti59 (And.intro @al59 @bx59))) (And.intro (And.intro @ti68 (And.intro @al68 @bx68)) (And.intro @ti69 (And.intro @al69 @bx69))))) (And.intro (And.intro (And.intro (And.intro @ti76 @al76) (And.intro @bx76 (And.intro @ti77 @al77))) (And.intro (And.intro @bx77 (And.intro @ti87 @al87)) (And.intro @bx87 (And.intro @ti92 @al92)))) (And.intro (And.intro (And.intro @bx92 @ti95) (And.intro @al95 (And.intro @bx95 @ti96))) (And.intro (And.intro @al96 (And.intro @bx96 @ti105)) (And.intro @al105 (And.intro @bx105 @ti107))))))) (And.intro (And.intro (And.intro (And.intro (And.intro (And.intro @al107 @bx107) (And.intro @ti113 (And.intro @al113 @bx113))) (And.intro (And.intro @ti118 @al118) (And.intro @bx118 (And.intro @ti122 @al122)))) (And.intro (And.intro (And.intro @bx122 @ti124) (And.intro @al124 (And.intro @bx124 @ti132))) (And.intro (And.intro @al132 (And.intro @bx132 @ti133)) (And.intro @al133 (And.intro @bx133 @ti134))))) (And.intro (And.intro (And.intro (And.intro @al134 @bx134) (And.intro @ti135 (And.intro @al135 @bx135))) (And.intro (And.intro @ti148 @al148) (And.intro @bx148 (And.intro @ti149 @al149)))) (And.intro (And.intro (And.intro @bx149 @ti150) (And.intro @al150 (And.intro @bx150 @ti151))) (And.intro (And.intro @al151 (And.intro @bx151 @ti157)) (And.intro @al157 (And.intro @bx157 @ti160)))))) (And.intro (And.intro (And.intro (And.intro (And.intro @al160 @bx160) (And.intro @ti161 (And.intro @al161 @bx161))) (And.intro (And.intro @ti165 @al165) (And.intro @bx165 (And.intro @ti174 @al174)))) (And.intro (And.intro (And.intro @bx174 @ti175) (And.intro @al175 (And.intro @bx175 @ti177))) (And.intro (And.intro @al177 (And.intro @bx177 @ti187)) (And.intro @al187 (And.intro @bx187 @ti214))))) (And.intro (And.intro (And.intro (And.intro @al214 @bx214) (And.intro @ti221 (And.intro @al221 @bx221))) (And.intro (And.intro @ti230 (And.intro @al230 @bx230)) (And.intro @ti234 (And.intro @al234 @bx234)))) (And.intro (And.intro (And.intro @ti240 @al240) (And.intro @bx240 (And.intro @ti249 @al249))) (And.intro (And.intro @bx249 (And.intro @sem_neB @sem_eqB)) (And.intro @glob1 (And.intro @glob6 @glob7))))))))
theorem mixed : Tryz.prog.follows .mixedOrders = true := by kernel_rfl
theorem laidOut : laidOutB Tryz.prog = true := by kernel_rfl
theorem ownK : ownKnob Tryz.prog.godebug = none := by kernel_rfl
end Go.Proofs.YtiaemddmkmfijaaGreatDoor
