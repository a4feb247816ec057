/-
  OWN WORK, printed by program: the types of this seat, as the walk over abstract states asks for them.
-/
import Derived.Test.YtnklfhjpigameaaDoorChecked
import Derived.Test.YtnklfhjpigameaaDoorOwnM
namespace Go.Proofs.YtnklfhjpigameaaDoor
open Go Go.Own Go.Proofs
def tab_uint64pow10 : List Int := [1, 10, 100, 1000, 10000, 100000, 1000000, 10000000, 100000000, 1000000000, 10000000000, 100000000000, 1000000000000, 10000000000000, 100000000000000, 1000000000000000, 10000000000000000, 100000000000000000, 1000000000000000000, 10000000000000000000]
def gl_uint64pow10 : List AVal := mapC (fun n => AVal.flat (.int .u64 n)) tab_uint64pow10
def tab_deBruijn32tab : List Int := [0, 1, 28, 2, 29, 14, 24, 3, 30, 22, 20, 15, 25, 17, 4, 8, 31, 27, 13, 23, 21, 19, 16, 7, 26, 12, 18, 6, 11, 5, 10, 9]
def gl_deBruijn32tab : List AVal := mapC (fun n => AVal.flat (.int .u8 n)) tab_deBruijn32tab
def tab_deBruijn64tab : List Int := [0, 1, 56, 2, 57, 49, 28, 3, 61, 58, 42, 50, 38, 29, 17, 4, 62, 47, 59, 36, 45, 43, 51, 22, 53, 39, 33, 30, 24, 18, 12, 5, 63, 55, 48, 27, 60, 41, 37, 16, 46, 35, 44, 21, 52, 32, 23, 11, 54, 26, 40, 15, 34, 20, 31, 10, 25, 14, 19, 9, 13, 8, 7, 6]
def gl_deBruijn64tab : List AVal := mapC (fun n => AVal.flat (.int .u8 n)) tab_deBruijn64tab
instance : GL := ⟨[(0, gl_uint64pow10), (2, gl_deBruijn32tab), (3, gl_deBruijn64tab)], by decide, [(0, tab_uint64pow10.map (Value.int .u64)), (2, tab_deBruijn32tab.map (Value.int .u8)), (3, tab_deBruijn64tab.map (Value.int .u8))], [(1, 0)]⟩
theorem glob0 : globV 0 = .iptr gl_uint64pow10 0 := rfl
theorem glob2 : globV 2 = .iptr gl_deBruijn32tab 0 := rfl
theorem glob3 : globV 3 = .iptr gl_deBruijn64tab 0 := rfl
theorem aalloc_of {P : Program} {t : TypeId} {i : TI} (h : ti P t = some i) (s : ASt) (d : Nat) : aalloc P s d t = s.new d i.size i.zero (.ptr (s.gh.nm d) s.gen 0) := by unfold aalloc; rw [h]
theorem abox_of {P : Program} {t : TypeId} {i : TI} (h : ti P t = some i) (s : ASt) (d : Nat) (x : AVal) : abox P s d t x = (match cellsOf x with | some vs => s.new d i.size vs (.ptr (s.gh.nm d) s.gen 0) | none => none) := by unfold abox; rw [h]; cases cellsOf x <;> rfl
theorem ti1 : ti Tryd.prog 1 = some ⟨1, false, 8, [.flat .nilFunc], .none⟩ := (ti_eq _ _).trans (by kernel_rfl)
theorem al1 (s : ASt) (d : Nat) : aalloc Tryd.prog s d 1 = s.new d 1 [.flat .nilFunc] (.ptr (s.gh.nm d) s.gen 0) := aalloc_of ti1 s d
theorem bx1 (s : ASt) (d : Nat) (x : AVal) : abox Tryd.prog s d 1 x = (match cellsOf x with | some vs => s.new d 1 vs (.ptr (s.gh.nm d) s.gen 0) | none => none) := abox_of ti1 s d x
theorem ti2 : ti Tryd.prog 2 = some ⟨1, false, 8, [.flat (.int .i64 0)], .none⟩ := (ti_eq _ _).trans (by kernel_rfl)
theorem al2 (s : ASt) (d : Nat) : aalloc Tryd.prog s d 2 = s.new d 1 [.flat (.int .i64 0)] (.ptr (s.gh.nm d) s.gen 0) := aalloc_of ti2 s d
theorem bx2 (s : ASt) (d : Nat) (x : AVal) : abox Tryd.prog s d 2 x = (match cellsOf x with | some vs => s.new d 1 vs (.ptr (s.gh.nm d) s.gen 0) | none => none) := abox_of ti2 s d x
theorem ti3 : ti Tryd.prog 3 = some ⟨1, false, 8, [.flat (.int .i64 0)], .none⟩ := (ti_eq _ _).trans (by kernel_rfl)
theorem al3 (s : ASt) (d : Nat) : aalloc Tryd.prog s d 3 = s.new d 1 [.flat (.int .i64 0)] (.ptr (s.gh.nm d) s.gen 0) := aalloc_of ti3 s d
theorem bx3 (s : ASt) (d : Nat) (x : AVal) : abox Tryd.prog s d 3 x = (match cellsOf x with | some vs => s.new d 1 vs (.ptr (s.gh.nm d) s.gen 0) | none => none) := abox_of ti3 s d x
theorem ti4 : ti Tryd.prog 4 = some ⟨1, false, 1, [.flat (.bool false)], .none⟩ := (ti_eq _ _).trans (by kernel_rfl)
theorem al4 (s : ASt) (d : Nat) : aalloc Tryd.prog s d 4 = s.new d 1 [.flat (.bool false)] (.ptr (s.gh.nm d) s.gen 0) := aalloc_of ti4 s d
theorem bx4 (s : ASt) (d : Nat) (x : AVal) : abox Tryd.prog s d 4 x = (match cellsOf x with | some vs => s.new d 1 vs (.ptr (s.gh.nm d) s.gen 0) | none => none) := abox_of ti4 s d x
theorem ti5 : ti Tryd.prog 5 = some ⟨1, false, 1, [.flat (.int .u8 0)], .none⟩ := (ti_eq _ _).trans (by kernel_rfl)
theorem al5 (s : ASt) (d : Nat) : aalloc Tryd.prog s d 5 = s.new d 1 [.flat (.int .u8 0)] (.ptr (s.gh.nm d) s.gen 0) := aalloc_of ti5 s d
theorem bx5 (s : ASt) (d : Nat) (x : AVal) : abox Tryd.prog s d 5 x = (match cellsOf x with | some vs => s.new d 1 vs (.ptr (s.gh.nm d) s.gen 0) | none => none) := abox_of ti5 s d x
theorem ti9 : ti Tryd.prog 9 = some ⟨1, false, 16, [.flat (.string ByteArray.empty)], .str⟩ := (ti_eq _ _).trans (by kernel_rfl)
theorem al9 (s : ASt) (d : Nat) : aalloc Tryd.prog s d 9 = s.new d 1 [.flat (.string ByteArray.empty)] (.ptr (s.gh.nm d) s.gen 0) := aalloc_of ti9 s d
theorem bx9 (s : ASt) (d : Nat) (x : AVal) : abox Tryd.prog s d 9 x = (match cellsOf x with | some vs => s.new d 1 vs (.ptr (s.gh.nm d) s.gen 0) | none => none) := abox_of ti9 s d x
theorem ti12 : ti Tryd.prog 12 = some ⟨1, false, 8, [.flat (.int .u64 0)], .none⟩ := (ti_eq _ _).trans (by kernel_rfl)
theorem al12 (s : ASt) (d : Nat) : aalloc Tryd.prog s d 12 = s.new d 1 [.flat (.int .u64 0)] (.ptr (s.gh.nm d) s.gen 0) := aalloc_of ti12 s d
theorem bx12 (s : ASt) (d : Nat) (x : AVal) : abox Tryd.prog s d 12 x = (match cellsOf x with | some vs => s.new d 1 vs (.ptr (s.gh.nm d) s.gen 0) | none => none) := abox_of ti12 s d x
theorem ti21 : ti Tryd.prog 21 = some ⟨1, false, 4, [.flat (.int .i32 0)], .none⟩ := (ti_eq _ _).trans (by kernel_rfl)
theorem al21 (s : ASt) (d : Nat) : aalloc Tryd.prog s d 21 = s.new d 1 [.flat (.int .i32 0)] (.ptr (s.gh.nm d) s.gen 0) := aalloc_of ti21 s d
theorem bx21 (s : ASt) (d : Nat) (x : AVal) : abox Tryd.prog s d 21 x = (match cellsOf x with | some vs => s.new d 1 vs (.ptr (s.gh.nm d) s.gen 0) | none => none) := abox_of ti21 s d x
theorem ti22 : ti Tryd.prog 22 = some ⟨1, false, 24, [.nl], .slice 2⟩ := (ti_eq _ _).trans (by kernel_rfl)
theorem al22 (s : ASt) (d : Nat) : aalloc Tryd.prog s d 22 = s.new d 1 [.nl] (.ptr (s.gh.nm d) s.gen 0) := aalloc_of ti22 s d
theorem bx22 (s : ASt) (d : Nat) (x : AVal) : abox Tryd.prog s d 22 x = (match cellsOf x with | some vs => s.new d 1 vs (.ptr (s.gh.nm d) s.gen 0) | none => none) := abox_of ti22 s d x
theorem ti23 : ti Tryd.prog 23 = some ⟨5, true, 72, [.flat (.int .i64 0), .flat (.int .i64 0), .flat (.int .i64 0), .nl, .nl], .struct [(0, 2), (1, 2), (2, 2), (3, 22), (4, 22)]⟩ := (ti_eq _ _).trans (by kernel_rfl)
theorem al23 (s : ASt) (d : Nat) : aalloc Tryd.prog s d 23 = s.new d 5 [.flat (.int .i64 0), .flat (.int .i64 0), .flat (.int .i64 0), .nl, .nl] (.ptr (s.gh.nm d) s.gen 0) := aalloc_of ti23 s d
theorem bx23 (s : ASt) (d : Nat) (x : AVal) : abox Tryd.prog s d 23 x = (match cellsOf x with | some vs => s.new d 5 vs (.ptr (s.gh.nm d) s.gen 0) | none => none) := abox_of ti23 s d x
theorem ti24 : ti Tryd.prog 24 = some ⟨5, true, 72, [.flat (.int .i64 0), .flat (.int .i64 0), .flat (.int .i64 0), .nl, .nl], .struct [(0, 2), (1, 2), (2, 2), (3, 22), (4, 22)]⟩ := (ti_eq _ _).trans (by kernel_rfl)
theorem al24 (s : ASt) (d : Nat) : aalloc Tryd.prog s d 24 = s.new d 5 [.flat (.int .i64 0), .flat (.int .i64 0), .flat (.int .i64 0), .nl, .nl] (.ptr (s.gh.nm d) s.gen 0) := aalloc_of ti24 s d
theorem bx24 (s : ASt) (d : Nat) (x : AVal) : abox Tryd.prog s d 24 x = (match cellsOf x with | some vs => s.new d 5 vs (.ptr (s.gh.nm d) s.gen 0) | none => none) := abox_of ti24 s d x
theorem ti27 : ti Tryd.prog 27 = some ⟨5, true, 72, [.flat (.int .i64 0), .flat (.int .i64 0), .flat (.int .i64 0), .nl, .nl], .struct [(0, 2), (1, 2), (2, 2), (3, 22), (4, 22)]⟩ := (ti_eq _ _).trans (by kernel_rfl)
theorem al27 (s : ASt) (d : Nat) : aalloc Tryd.prog s d 27 = s.new d 5 [.flat (.int .i64 0), .flat (.int .i64 0), .flat (.int .i64 0), .nl, .nl] (.ptr (s.gh.nm d) s.gen 0) := aalloc_of ti27 s d
theorem bx27 (s : ASt) (d : Nat) (x : AVal) : abox Tryd.prog s d 27 x = (match cellsOf x with | some vs => s.new d 5 vs (.ptr (s.gh.nm d) s.gen 0) | none => none) := abox_of ti27 s d x
theorem ti33 : ti Tryd.prog 33 = some ⟨1, false, 8, [.flat (.pointer none)], .none⟩ := (ti_eq _ _).trans (by kernel_rfl)
theorem al33 (s : ASt) (d : Nat) : aalloc Tryd.prog s d 33 = s.new d 1 [.flat (.pointer none)] (.ptr (s.gh.nm d) s.gen 0) := aalloc_of ti33 s d
theorem bx33 (s : ASt) (d : Nat) (x : AVal) : abox Tryd.prog s d 33 x = (match cellsOf x with | some vs => s.new d 1 vs (.ptr (s.gh.nm d) s.gen 0) | none => none) := abox_of ti33 s d x
theorem ti41 : ti Tryd.prog 41 = some ⟨1, false, 8, [.flat .nilFunc], .none⟩ := (ti_eq _ _).trans (by kernel_rfl)
theorem al41 (s : ASt) (d : Nat) : aalloc Tryd.prog s d 41 = s.new d 1 [.flat .nilFunc] (.ptr (s.gh.nm d) s.gen 0) := aalloc_of ti41 s d
theorem bx41 (s : ASt) (d : Nat) (x : AVal) : abox Tryd.prog s d 41 x = (match cellsOf x with | some vs => s.new d 1 vs (.ptr (s.gh.nm d) s.gen 0) | none => none) := abox_of ti41 s d x
theorem ti44 : ti Tryd.prog 44 = some ⟨1, false, 24, [.nl], .slice 9⟩ := (ti_eq _ _).trans (by kernel_rfl)
theorem al44 (s : ASt) (d : Nat) : aalloc Tryd.prog s d 44 = s.new d 1 [.nl] (.ptr (s.gh.nm d) s.gen 0) := aalloc_of ti44 s d
theorem bx44 (s : ASt) (d : Nat) (x : AVal) : abox Tryd.prog s d 44 x = (match cellsOf x with | some vs => s.new d 1 vs (.ptr (s.gh.nm d) s.gen 0) | none => none) := abox_of ti44 s d x
theorem ti46 : ti Tryd.prog 46 = some ⟨1, false, 24, [.nl], .slice 5⟩ := (ti_eq _ _).trans (by kernel_rfl)
theorem al46 (s : ASt) (d : Nat) : aalloc Tryd.prog s d 46 = s.new d 1 [.nl] (.ptr (s.gh.nm d) s.gen 0) := aalloc_of ti46 s d
theorem bx46 (s : ASt) (d : Nat) (x : AVal) : abox Tryd.prog s d 46 x = (match cellsOf x with | some vs => s.new d 1 vs (.ptr (s.gh.nm d) s.gen 0) | none => none) := abox_of ti46 s d x
theorem ti48 : ti Tryd.prog 48 = some ⟨1, false, 8, [.flat (.pointer none)], .none⟩ := (ti_eq _ _).trans (by kernel_rfl)
theorem al48 (s : ASt) (d : Nat) : aalloc Tryd.prog s d 48 = s.new d 1 [.flat (.pointer none)] (.ptr (s.gh.nm d) s.gen 0) := aalloc_of ti48 s d
theorem bx48 (s : ASt) (d : Nat) (x : AVal) : abox Tryd.prog s d 48 x = (match cellsOf x with | some vs => s.new d 1 vs (.ptr (s.gh.nm d) s.gen 0) | none => none) := abox_of ti48 s d x
theorem ti49 : ti Tryd.prog 49 = some ⟨2, true, 32, [.flat (.pointer none), .nl], .struct [(0, 48), (1, 46)]⟩ := (ti_eq _ _).trans (by kernel_rfl)
theorem al49 (s : ASt) (d : Nat) : aalloc Tryd.prog s d 49 = s.new d 2 [.flat (.pointer none), .nl] (.ptr (s.gh.nm d) s.gen 0) := aalloc_of ti49 s d
theorem bx49 (s : ASt) (d : Nat) (x : AVal) : abox Tryd.prog s d 49 x = (match cellsOf x with | some vs => s.new d 2 vs (.ptr (s.gh.nm d) s.gen 0) | none => none) := abox_of ti49 s d x
theorem ti50 : ti Tryd.prog 50 = some ⟨2, true, 32, [.flat (.pointer none), .nl], .struct [(0, 48), (1, 46)]⟩ := (ti_eq _ _).trans (by kernel_rfl)
theorem al50 (s : ASt) (d : Nat) : aalloc Tryd.prog s d 50 = s.new d 2 [.flat (.pointer none), .nl] (.ptr (s.gh.nm d) s.gen 0) := aalloc_of ti50 s d
theorem bx50 (s : ASt) (d : Nat) (x : AVal) : abox Tryd.prog s d 50 x = (match cellsOf x with | some vs => s.new d 2 vs (.ptr (s.gh.nm d) s.gen 0) | none => none) := abox_of ti50 s d x
theorem ti60 : ti Tryd.prog 60 = some ⟨1, false, 8, [.flat (.int .u64 0)], .none⟩ := (ti_eq _ _).trans (by kernel_rfl)
theorem al60 (s : ASt) (d : Nat) : aalloc Tryd.prog s d 60 = s.new d 1 [.flat (.int .u64 0)] (.ptr (s.gh.nm d) s.gen 0) := aalloc_of ti60 s d
theorem bx60 (s : ASt) (d : Nat) (x : AVal) : abox Tryd.prog s d 60 x = (match cellsOf x with | some vs => s.new d 1 vs (.ptr (s.gh.nm d) s.gen 0) | none => none) := abox_of ti60 s d x
theorem ti65 : ti Tryd.prog 65 = some ⟨1, false, 8, [.flat (.pointer none)], .none⟩ := (ti_eq _ _).trans (by kernel_rfl)
theorem al65 (s : ASt) (d : Nat) : aalloc Tryd.prog s d 65 = s.new d 1 [.flat (.pointer none)] (.ptr (s.gh.nm d) s.gen 0) := aalloc_of ti65 s d
theorem bx65 (s : ASt) (d : Nat) (x : AVal) : abox Tryd.prog s d 65 x = (match cellsOf x with | some vs => s.new d 1 vs (.ptr (s.gh.nm d) s.gen 0) | none => none) := abox_of ti65 s d x
theorem ti69 : ti Tryd.prog 69 = some ⟨1, false, 4, [.flat (.int .u32 0)], .none⟩ := (ti_eq _ _).trans (by kernel_rfl)
theorem al69 (s : ASt) (d : Nat) : aalloc Tryd.prog s d 69 = s.new d 1 [.flat (.int .u32 0)] (.ptr (s.gh.nm d) s.gen 0) := aalloc_of ti69 s d
theorem bx69 (s : ASt) (d : Nat) (x : AVal) : abox Tryd.prog s d 69 x = (match cellsOf x with | some vs => s.new d 1 vs (.ptr (s.gh.nm d) s.gen 0) | none => none) := abox_of ti69 s d x
theorem ti71 : ti Tryd.prog 71 = some ⟨1, false, 8, [.flat .nilFunc], .none⟩ := (ti_eq _ _).trans (by kernel_rfl)
theorem al71 (s : ASt) (d : Nat) : aalloc Tryd.prog s d 71 = s.new d 1 [.flat .nilFunc] (.ptr (s.gh.nm d) s.gen 0) := aalloc_of ti71 s d
theorem bx71 (s : ASt) (d : Nat) (x : AVal) : abox Tryd.prog s d 71 x = (match cellsOf x with | some vs => s.new d 1 vs (.ptr (s.gh.nm d) s.gen 0) | none => none) := abox_of ti71 s d x
theorem ti72 : ti Tryd.prog 72 = some ⟨1, false, 8, [.flat (.int .u64 0)], .none⟩ := (ti_eq _ _).trans (by kernel_rfl)
theorem al72 (s : ASt) (d : Nat) : aalloc Tryd.prog s d 72 = s.new d 1 [.flat (.int .u64 0)] (.ptr (s.gh.nm d) s.gen 0) := aalloc_of ti72 s d
theorem bx72 (s : ASt) (d : Nat) (x : AVal) : abox Tryd.prog s d 72 x = (match cellsOf x with | some vs => s.new d 1 vs (.ptr (s.gh.nm d) s.gen 0) | none => none) := abox_of ti72 s d x
theorem ti82 : ti Tryd.prog 82 = some ⟨0, true, 0, [], .array 0 16⟩ := (ti_eq _ _).trans (by kernel_rfl)
theorem al82 (s : ASt) (d : Nat) : aalloc Tryd.prog s d 82 = s.new d 0 [] (.ptr (s.gh.nm d) s.gen 0) := aalloc_of ti82 s d
theorem bx82 (s : ASt) (d : Nat) (x : AVal) : abox Tryd.prog s d 82 x = (match cellsOf x with | some vs => s.new d 0 vs (.ptr (s.gh.nm d) s.gen 0) | none => none) := abox_of ti82 s d x
theorem ti91 : ti Tryd.prog 91 = some ⟨11, true, 48, [.flat (.int .u64 0), .flat (.int .u64 0), .flat (.int .u32 0), .flat (.int .u8 0), .flat (.int .u8 0), .flat (.int .u8 0), .flat (.int .u8 0), .flat .nilFunc, .flat (.pointer none), .flat (.int .i32 0), .flat (.int .i32 0)], .struct [(0, 12), (1, 12), (2, 69), (3, 86), (4, 5), (5, 5), (6, 87), (7, 88), (8, 65), (9, 89), (10, 90)]⟩ := (ti_eq _ _).trans (by kernel_rfl)
theorem al91 (s : ASt) (d : Nat) : aalloc Tryd.prog s d 91 = s.new d 11 [.flat (.int .u64 0), .flat (.int .u64 0), .flat (.int .u32 0), .flat (.int .u8 0), .flat (.int .u8 0), .flat (.int .u8 0), .flat (.int .u8 0), .flat .nilFunc, .flat (.pointer none), .flat (.int .i32 0), .flat (.int .i32 0)] (.ptr (s.gh.nm d) s.gen 0) := aalloc_of ti91 s d
theorem bx91 (s : ASt) (d : Nat) (x : AVal) : abox Tryd.prog s d 91 x = (match cellsOf x with | some vs => s.new d 11 vs (.ptr (s.gh.nm d) s.gen 0) | none => none) := abox_of ti91 s d x
theorem sem_neB (x y : Operand) (p q : Bool) : semS Tryd.prog (do eqGuard .neq 4 x y (.bool p) (.bool q); binOp .neq 4 (.bool p) (.bool q)) = some (.flat (.bool (!(p == q)))) := sem_neb Tryd.prog x y p q (by kernel_rfl)
theorem sem_eqB (x y : Operand) (p q : Bool) : semS Tryd.prog (do eqGuard .eql 4 x y (.bool p) (.bool q); binOp .eql 4 (.bool p) (.bool q)) = some (.flat (.bool (p == q))) := sem_eqb Tryd.prog x y p q (by kernel_rfl)
theorem tabS : type_of% (And.intro (And.intro (And.intro (And.intro (And.intro (And.intro @ti1 @al1) (And.intro @bx1 (And.intro @ti2 @al2))) (And.intro (And.intro @bx2 @ti3) (And.intro @al3 (And.intro @bx3 @ti4)))) (And.intro (And.intro (And.intro @al4 @bx4) (And.intro @ti5 (And.intro @al5 @bx5))) (And.intro (And.intro @ti9 @al9) (And.intro @bx9 (And.intro @ti12 @al12))))) (And.intro (And.intro (And.intro (And.intro @bx12 @ti21) (And.intro @al21 (And.intro @bx21 @ti22))) (And.intro (And.intro @al22 @bx22) (And.intro @ti23 (And.intro @al23 @bx23)))) (And.intro (And.intro (And.intro @ti24 @al24) (And.intro @bx24 (And.intro @ti27 @al27))) (And.intro (And.intro @bx27 (And.intro @ti33 @al33)) (And.intro @bx33 (And.intro @ti41 @al41)))))) (And.intro (And.intro (And.intro (And.intro (And.intro @bx41 @ti44) (And.intro @al44 (And.intro @bx44 @ti46))) (And.intro (And.intro @al46 @bx46) (And.intro @ti48 (And.intro @al48 @bx48)))) (And.intro (And.intro (And.intro @ti49 @al49) (And.intro @bx49 (And.intro @ti50 @al50))) (And.intro (And.intro @bx50 (And.intro @ti60 @al60)) (And.intro @bx60 (And.intro @ti65 @al65))))) (And.intro (And.intro (And.intro (And.intro @bx65 @ti69) (And.intro @al69 (And.intro @bx69 @ti71))) (And.intro (And.intro @al71 @bx71) (And.intro @ti72 (And.intro @al72 @bx72)))) (And.intro (And.intro (And.intro @ti82 @al82) (And.intro @bx82 (And.intro @ti91 @al91))) (And.intro (And.intro @bx91 (And.intro @sem_neB @sem_eqB)) (And.intro @glob0 (And.intro @glob2 @glob3))))))) := (And.intro (And.intro (And.intro (And.intro (And.intro (And.intro @ti1 @al1) (And.intro @bx1 (And.intro @ti2 @al2))) (And.intro (And.intro @bx2 @ti3) (And.intro @al3 (And.intro @bx3 @ti4)))) (And.intro (And.intro (And.intro @al4 @bx4) (And.intro @ti5 (And.intro @al5 @bx5))) (And.intro (And.intro @ti9 @al9) (And.intro @bx9 (And.intro @ti12 @al12))))) (And.intro (And.intro (And.intro (And.intro @bx12 @ti21) (And.intro @al21 (And.intro @bx21 @ti22))) (And.intro (And.intro @al22 @bx22) (And.intro @ti23 (And.intro @al23 @bx23)))) (And.intro (And.intro (And.intro @ti24 @al24) (And.intro @bx24 (And.intro @ti27 @al27))) (And.intro (And.intro @bx27 (And.intro @ti33 @al33)) (And.intro @bx33 (And.intro @ti41 @al41)))))) (And.intro (And.intro (And.intro (And.intro (And.intro @bx41 @ti44) (And.intro @al44 (And.intro @bx44 @ti46))) (And.intro (And.intro @al46 @bx46) (And.intro @ti48 (And.intro @al48 @bx48)))) (And.intro (And.intro (And.intro @ti49 @al49) (And.intro @bx49 (And.intro @ti50 @al50))) (And.intro (And.intro @bx50 (And.intro @ti60 @al60)) (And.intro @bx60 (And.intro @ti65 @al65))))) (And.intro (And.intro (And.intro (And.intro @bx65 @ti69) (And.intro @al69 (And.intro @bx69 @ti71))) (And.intro (And.intro @al71 @bx71) (And.intro @ti72 (And.intro @al72 @bx72)))) (And.intro (And.intro (And.intro @ti82 @al82) (And.intro @bx82 (And.intro @ti91 @al91))) (And.intro (And.intro @bx91 (And.intro @sem_neB @sem_eqB)) (And.intro @glob0 (And.intro @glob2 @glob3)))))))
theorem mixed : Tryd.prog.follows .mixedOrders = true := by kernel_rfl
theorem laidOut : laidOutB Tryd.prog = true := by kernel_rfl
theorem ownK : ownKnob Tryd.prog.godebug = none := by kernel_rfl
end Go.Proofs.YtnklfhjpigameaaDoor
