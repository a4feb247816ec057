/-
  Printed by a tool of the kit: contracts of the library laid at this program.
-/
import Derived.Shelf.Bits.Mul64
import Derived.Test.YtkmhoebopfgpdaaProg
namespace Go.Proofs
open Go.Shelf
def Try.mul_ren : Go.Shelf.Ren := ⟨fun | 212 => 105 | 263 => 121 | 264 => 122 | n => n, fun | 46 => 105 | 51 => 122 | 146 => 125 | 53 => 80 | 148 => 127 | n => n, fun | n => n⟩
theorem Try.mul : Go.Proofs.Lays.n212 Try.prog Try.mul_ren := {
  mixed := by kernel_rfl
  f212 := Try.func105.trans (congrArg some (by kernel_rfl))
  f263 := Try.func121.trans (congrArg some (by kernel_rfl))
  f264 := Try.func122.trans (congrArg some (by kernel_rfl))
  t46 := Try.underlying105
  a46 := Try.isAgg105
  z46 := Try.sizeOf105
  v46 := Try.zeroValue105
  t51 := Try.underlying122
  a51 := Try.isAgg122
  z51 := Try.sizeOf122
  v51 := Try.zeroValue122
  t53 := Try.underlying80
  a53 := Try.isAgg80
  z53 := Try.sizeOf80
  v53 := Try.zeroValue80
  t146 := Try.underlying125
  a146 := Try.isAgg125
  z146 := Try.sizeOf125
  v146 := Try.zeroValue125
  t148 := Try.underlying127
  a148 := Try.isAgg127
  z148 := Try.sizeOf127
  v148 := Try.zeroValue127 }
end Go.Proofs
