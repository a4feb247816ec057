/-
  Printed by a tool of the kit: contracts of the library laid at this program.
-/
import Derived.Shelf.Bits.Mul64
import Derived.Test.YtagomliggjndeaaDoorProg
namespace Go.Proofs
open Go.Shelf
def Tryd.mul_ren : Go.Shelf.Ren := ⟨fun | 212 => 60 | 263 => 68 | 264 => 69 | n => n, fun | 46 => 76 | 51 => 82 | 146 => 83 | 53 => 63 | 148 => 85 | n => n, fun | n => n⟩
theorem Tryd.mul : Go.Proofs.Lays.n212 Tryd.prog Tryd.mul_ren := {
  mixed := by kernel_rfl
  f212 := Tryd.func60.trans (congrArg some (by kernel_rfl))
  f263 := Tryd.func68.trans (congrArg some (by kernel_rfl))
  f264 := Tryd.func69.trans (congrArg some (by kernel_rfl))
  t46 := Tryd.underlying76
  a46 := Tryd.isAgg76
  z46 := Tryd.sizeOf76
  v46 := Tryd.zeroValue76
  t51 := Tryd.underlying82
  a51 := Tryd.isAgg82
  z51 := Tryd.sizeOf82
  v51 := Tryd.zeroValue82
  t53 := Tryd.underlying63
  a53 := Tryd.isAgg63
  z53 := Tryd.sizeOf63
  v53 := Tryd.zeroValue63
  t146 := Tryd.underlying83
  a146 := Tryd.isAgg83
  z146 := Tryd.sizeOf83
  v146 := Tryd.zeroValue83
  t148 := Tryd.underlying85
  a148 := Tryd.isAgg85
  z148 := Tryd.sizeOf85
  v148 := Tryd.zeroValue85 }
end Go.Proofs
