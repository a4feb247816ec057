/-
  OWN WORK, printed by program: the types of this seat, as the walk over abstract states asks for them.
-/
import Derived.Test.YtncbhafegccpmaaChecked
import Derived.Test.YtncbhafegccpmaaOwnM
namespace Go.Proofs.Ytncbhafegccpmaa
open Go Go.Own Go.Proofs
theorem ti1 : ti Try.prog 1 = some ⟨1, false, 8, [.flat .nilFunc], .none⟩ := by kernel_rfl
theorem ti2 : ti Try.prog 2 = some ⟨1, false, 8, [.flat (.int .i64 0)], .none⟩ := by kernel_rfl
theorem ti3 : ti Try.prog 3 = some ⟨1, false, 8, [.flat (.int .i64 0)], .none⟩ := by kernel_rfl
theorem ti4 : ti Try.prog 4 = some ⟨1, false, 1, [.flat (.bool false)], .none⟩ := by kernel_rfl
theorem ti5 : ti Try.prog 5 = some ⟨1, false, 1, [.flat (.int .u8 0)], .none⟩ := by kernel_rfl
theorem ti9 : ti Try.prog 9 = some ⟨1, false, 16, [.flat (.string ByteArray.empty)], .str⟩ := by kernel_rfl
theorem ti12 : ti Try.prog 12 = some ⟨1, false, 8, [.flat (.int .u64 0)], .none⟩ := by kernel_rfl
theorem ti21 : ti Try.prog 21 = some ⟨1, false, 4, [.flat (.int .i32 0)], .none⟩ := by kernel_rfl
theorem ti22 : ti Try.prog 22 = some ⟨1, false, 24, [.nl], .slice 38⟩ := by kernel_rfl
theorem ti23 : ti Try.prog 23 = some ⟨1, false, 8, [.flat .nilFunc], .none⟩ := by kernel_rfl
theorem ti24 : ti Try.prog 24 = some ⟨1, false, 8, [.flat .nilFunc], .none⟩ := by kernel_rfl
theorem ti25 : ti Try.prog 25 = some ⟨1, false, 8, [.flat .nilFunc], .none⟩ := by kernel_rfl
theorem ti26 : ti Try.prog 26 = some ⟨1, false, 8, [.flat .nilFunc], .none⟩ := by kernel_rfl
theorem ti28 : ti Try.prog 28 = some ⟨1, false, 8, [.flat .nilFunc], .none⟩ := by kernel_rfl
theorem ti29 : ti Try.prog 29 = some ⟨1, false, 8, [.flat .nilFunc], .none⟩ := by kernel_rfl
theorem ti30 : ti Try.prog 30 = some ⟨1, false, 24, [.nl], .slice 68⟩ := by kernel_rfl
theorem ti31 : ti Try.prog 31 = some ⟨1, false, 8, [.flat .nilFunc], .none⟩ := by kernel_rfl
theorem ti32 : ti Try.prog 32 = some ⟨1, false, 8, [.flat .nilFunc], .none⟩ := by kernel_rfl
theorem ti33 : ti Try.prog 33 = some ⟨1, false, 24, [.nl], .slice 64⟩ := by kernel_rfl
theorem ti34 : ti Try.prog 34 = some ⟨1, false, 8, [.flat .nilFunc], .none⟩ := by kernel_rfl
theorem ti35 : ti Try.prog 35 = some ⟨1, false, 8, [.flat .nilFunc], .none⟩ := by kernel_rfl
theorem ti36 : ti Try.prog 36 = some ⟨1, false, 8, [.flat .nilFunc], .none⟩ := by kernel_rfl
theorem ti37 : ti Try.prog 37 = some ⟨1, false, 8, [.flat .nilFunc], .none⟩ := by kernel_rfl
theorem ti38 : ti Try.prog 38 = some ⟨1, false, 24, [.nl], .slice 2⟩ := by kernel_rfl
theorem ti39 : ti Try.prog 39 = some ⟨1, false, 8, [.flat .nilFunc], .none⟩ := by kernel_rfl
theorem ti40 : ti Try.prog 40 = some ⟨1, false, 8, [.flat .nilFunc], .none⟩ := by kernel_rfl
theorem ti41 : ti Try.prog 41 = some ⟨1, false, 8, [.flat .nilFunc], .none⟩ := by kernel_rfl
theorem ti42 : ti Try.prog 42 = some ⟨1, false, 8, [.flat .nilFunc], .none⟩ := by kernel_rfl
theorem ti43 : ti Try.prog 43 = some ⟨1, false, 8, [.flat .nilFunc], .none⟩ := by kernel_rfl
theorem ti44 : ti Try.prog 44 = some ⟨1, false, 24, [.nl], .slice 5⟩ := by kernel_rfl
theorem ti45 : ti Try.prog 45 = some ⟨1, false, 8, [.flat .nilFunc], .none⟩ := by kernel_rfl
theorem ti46 : ti Try.prog 46 = some ⟨1, false, 8, [.flat .nilFunc], .none⟩ := by kernel_rfl
theorem ti47 : ti Try.prog 47 = some ⟨1, false, 8, [.flat .nilFunc], .none⟩ := by kernel_rfl
theorem ti49 : ti Try.prog 49 = some ⟨1, false, 8, [.flat .nilFunc], .none⟩ := by kernel_rfl
theorem ti50 : ti Try.prog 50 = some ⟨1, false, 8, [.flat .nilFunc], .none⟩ := by kernel_rfl
theorem ti52 : ti Try.prog 52 = some ⟨1, false, 8, [.flat .nilFunc], .none⟩ := by kernel_rfl
theorem ti53 : ti Try.prog 53 = some ⟨1, false, 8, [.flat .nilFunc], .none⟩ := by kernel_rfl
theorem ti54 : ti Try.prog 54 = some ⟨1, false, 8, [.flat .nilFunc], .none⟩ := by kernel_rfl
theorem ti55 : ti Try.prog 55 = some ⟨1, false, 8, [.flat .nilFunc], .none⟩ := by kernel_rfl
theorem ti56 : ti Try.prog 56 = some ⟨1, false, 8, [.flat .nilFunc], .none⟩ := by kernel_rfl
theorem ti57 : ti Try.prog 57 = some ⟨1, false, 24, [.nl], .slice 72⟩ := by kernel_rfl
theorem ti58 : ti Try.prog 58 = some ⟨1, false, 8, [.flat .nilFunc], .none⟩ := by kernel_rfl
theorem ti59 : ti Try.prog 59 = some ⟨1, false, 8, [.flat .nilFunc], .none⟩ := by kernel_rfl
theorem ti60 : ti Try.prog 60 = some ⟨1, false, 8, [.flat .nilFunc], .none⟩ := by kernel_rfl
theorem ti61 : ti Try.prog 61 = some ⟨1, false, 8, [.flat .nilFunc], .none⟩ := by kernel_rfl
theorem ti62 : ti Try.prog 62 = some ⟨1, false, 8, [.flat .nilFunc], .none⟩ := by kernel_rfl
theorem ti63 : ti Try.prog 63 = some ⟨2, true, 16, [.flat (.int .i64 0), .flat (.int .i64 0)], .struct [(0, 2), (1, 2)]⟩ := by kernel_rfl
theorem ti64 : ti Try.prog 64 = some ⟨2, true, 16, [.flat (.int .i64 0), .flat (.int .i64 0)], .struct [(0, 2), (1, 2)]⟩ := by kernel_rfl
theorem ti65 : ti Try.prog 65 = some ⟨1, false, 8, [.flat .nilFunc], .none⟩ := by kernel_rfl
theorem ti66 : ti Try.prog 66 = some ⟨1, false, 8, [.flat .nilFunc], .none⟩ := by kernel_rfl
theorem ti67 : ti Try.prog 67 = some ⟨1, false, 8, [.flat .nilFunc], .none⟩ := by kernel_rfl
theorem ti68 : ti Try.prog 68 = some ⟨2, true, 16, [.flat (.int .i64 0), .flat (.int .i64 0)], .struct [(0, 2), (1, 2)]⟩ := by kernel_rfl
theorem ti69 : ti Try.prog 69 = some ⟨1, false, 8, [.flat .nilFunc], .none⟩ := by kernel_rfl
theorem ti70 : ti Try.prog 70 = some ⟨1, false, 8, [.flat .nilFunc], .none⟩ := by kernel_rfl
theorem ti71 : ti Try.prog 71 = some ⟨1, false, 8, [.flat .nilFunc], .none⟩ := by kernel_rfl
theorem ti72 : ti Try.prog 72 = some ⟨1, false, 24, [.nl], .slice 4⟩ := by kernel_rfl
theorem ti73 : ti Try.prog 73 = some ⟨1, false, 8, [.flat .nilFunc], .none⟩ := by kernel_rfl
theorem ti74 : ti Try.prog 74 = some ⟨1, false, 8, [.flat .nilFunc], .none⟩ := by kernel_rfl
theorem ti75 : ti Try.prog 75 = some ⟨1, false, 8, [.flat .nilFunc], .none⟩ := by kernel_rfl
theorem ti76 : ti Try.prog 76 = some ⟨1, false, 8, [.flat .nilFunc], .none⟩ := by kernel_rfl
theorem ti77 : ti Try.prog 77 = some ⟨1, false, 8, [.flat .nilFunc], .none⟩ := by kernel_rfl
theorem ti78 : ti Try.prog 78 = some ⟨1, false, 8, [.flat (.pointer none)], .none⟩ := by kernel_rfl
theorem ti79 : ti Try.prog 79 = some ⟨1, false, 8, [.flat .nilFunc], .none⟩ := by kernel_rfl
theorem ti80 : ti Try.prog 80 = some ⟨1, false, 8, [.flat .nilFunc], .none⟩ := by kernel_rfl
theorem ti81 : ti Try.prog 81 = some ⟨1, false, 8, [.flat .nilFunc], .none⟩ := by kernel_rfl
theorem ti82 : ti Try.prog 82 = some ⟨1, false, 8, [.flat .nilFunc], .none⟩ := by kernel_rfl
theorem ti83 : ti Try.prog 83 = some ⟨1, false, 8, [.flat .nilFunc], .none⟩ := by kernel_rfl
theorem ti85 : ti Try.prog 85 = some ⟨1, false, 8, [.flat .nilFunc], .none⟩ := by kernel_rfl
theorem ti86 : ti Try.prog 86 = some ⟨1, false, 8, [.flat .nilFunc], .none⟩ := by kernel_rfl
theorem ti87 : ti Try.prog 87 = some ⟨1, false, 8, [.flat .nilFunc], .none⟩ := by kernel_rfl
theorem ti88 : ti Try.prog 88 = some ⟨1, false, 8, [.flat .nilFunc], .none⟩ := by kernel_rfl
theorem ti89 : ti Try.prog 89 = some ⟨1, false, 8, [.flat (.int .u64 0)], .none⟩ := by kernel_rfl
theorem ti90 : ti Try.prog 90 = some ⟨3, true, 40, [.nl, .flat (.int .i64 0), .flat (.int .u64 0)], .struct [(0, 44), (1, 3), (2, 89)]⟩ := by kernel_rfl
theorem ti91 : ti Try.prog 91 = some ⟨3, true, 40, [.nl, .flat (.int .i64 0), .flat (.int .u64 0)], .struct [(0, 44), (1, 3), (2, 89)]⟩ := by kernel_rfl
theorem ti92 : ti Try.prog 92 = some ⟨1, false, 8, [.flat .nilFunc], .none⟩ := by kernel_rfl
theorem ti93 : ti Try.prog 93 = some ⟨1, false, 8, [.flat .nilFunc], .none⟩ := by kernel_rfl
theorem ti94 : ti Try.prog 94 = some ⟨1, false, 8, [.flat .nilFunc], .none⟩ := by kernel_rfl
theorem ti95 : ti Try.prog 95 = some ⟨1, false, 8, [.flat (.int .u64 0)], .none⟩ := by kernel_rfl
theorem ti96 : ti Try.prog 96 = some ⟨1, false, 8, [.flat .nilFunc], .none⟩ := by kernel_rfl
theorem ti99 : ti Try.prog 99 = some ⟨0, true, 0, [], .array 0 16⟩ := by kernel_rfl
theorem ti102 : ti Try.prog 102 = some ⟨1, false, 8, [.flat .nilFunc], .none⟩ := by kernel_rfl
theorem ti103 : ti Try.prog 103 = some ⟨1, false, 4, [.flat (.int .u32 0)], .none⟩ := by kernel_rfl
theorem ti106 : ti Try.prog 106 = some ⟨1, false, 8, [.flat .nilFunc], .none⟩ := by kernel_rfl
theorem ti107 : ti Try.prog 107 = some ⟨1, false, 8, [.flat (.pointer none)], .none⟩ := by kernel_rfl
theorem ti110 : ti Try.prog 110 = some ⟨11, true, 48, [.flat (.int .u64 0), .flat (.int .u64 0), .flat (.int .u32 0), .flat (.int .u8 0), .flat (.int .u8 0), .flat (.int .u8 0), .flat (.int .u8 0), .flat .nilFunc, .flat (.pointer none), .flat (.int .i32 0), .flat (.int .i32 0)], .struct [(0, 12), (1, 12), (2, 103), (3, 104), (4, 5), (5, 5), (6, 105), (7, 106), (8, 107), (9, 108), (10, 109)]⟩ := by kernel_rfl
theorem mixed : Try.prog.follows .mixedOrders = true := by kernel_rfl
theorem laidOut : laidOutB Try.prog = true := by kernel_rfl
theorem ownK : ownKnob Try.prog.godebug = none := by kernel_rfl
end Go.Proofs.Ytncbhafegccpmaa
