/-
  Printed by a tool of the kit: contracts of the library laid at this program.
-/
import Derived.Shelf.SlGeneric
import Derived.Shelf.SortG.Plain
import Derived.Shelf.SortG.SortNone
import Derived.Shelf.SlicesG.Delete
import Derived.Test.YtocbojbgadcpcaaProg
namespace Go.Proofs
open Go.Shelf
def Try.sort64_ren : Go.Shelf.Ren := ⟨fun | 53 => 32 | 64 => 50 | 63 => 49 | 78 => 68 | 79 => 69 | 70 => 59 | 71 => 60 | 72 => 61 | 73 => 62 | 74 => 63 | 75 => 64 | 59 => 65 | 76 => 66 | 77 => 67 | 88 => 71 | 89 => 72 | 90 => 73 | 91 => 74 | 92 => 75 | 68 => 76 | 96 => 77 | n => n, fun | 22 => 24 | 23 => 2 | 3 => 3 | 51 => 70 | 0 => 0 | 67 => 86 | 69 => 60 | 4 => 4 | 61 => 78 | 60 => 77 | 44 => 83 | 5 => 5 | 9 => 9 | 75 => 88 | 79 => 92 | 83 => 94 | 84 => 95 | n => n, fun | n => n⟩
theorem Try.sort64 : Go.Proofs.SlLaysN.n53 Try.prog Try.sort64_ren := {
  mixed := by kernel_rfl
  f53 := ⟨Try.f32.name, by decide, Try.func32.trans (congrArg some (by kernel_rfl))⟩
  f59 := ⟨Try.f65.name, by decide, Try.func65.trans (congrArg some (by kernel_rfl))⟩
  f63 := ⟨Try.f49.name, by decide, Try.func49.trans (congrArg some (by kernel_rfl))⟩
  f64 := Try.func50.trans (congrArg some (by kernel_rfl))
  f68 := ⟨Try.f76.name, by decide, Try.func76.trans (congrArg some (by kernel_rfl))⟩
  f70 := ⟨Try.f59.name, by decide, Try.func59.trans (congrArg some (by kernel_rfl))⟩
  f71 := ⟨Try.f60.name, by decide, Try.func60.trans (congrArg some (by kernel_rfl))⟩
  f72 := ⟨Try.f61.name, by decide, Try.func61.trans (congrArg some (by kernel_rfl))⟩
  f73 := ⟨Try.f62.name, by decide, Try.func62.trans (congrArg some (by kernel_rfl))⟩
  f74 := ⟨Try.f63.name, by decide, Try.func63.trans (congrArg some (by kernel_rfl))⟩
  f75 := ⟨Try.f64.name, by decide, Try.func64.trans (congrArg some (by kernel_rfl))⟩
  f76 := ⟨Try.f66.name, by decide, Try.func66.trans (congrArg some (by kernel_rfl))⟩
  f77 := ⟨Try.f67.name, by decide, Try.func67.trans (congrArg some (by kernel_rfl))⟩
  f78 := Try.func68.trans (congrArg some (by kernel_rfl))
  f79 := Try.func69.trans (congrArg some (by kernel_rfl))
  f88 := ⟨Try.f71.name, by decide, Try.func71.trans (congrArg some (by kernel_rfl))⟩
  f89 := Try.func72.trans (congrArg some (by kernel_rfl))
  f90 := Try.func73.trans (congrArg some (by kernel_rfl))
  f91 := ⟨Try.f74.name, by decide, Try.func74.trans (congrArg some (by kernel_rfl))⟩
  f92 := ⟨Try.f75.name, by decide, Try.func75.trans (congrArg some (by kernel_rfl))⟩
  f96 := ⟨Try.f77.name, by decide, Try.func77.trans (congrArg some (by kernel_rfl))⟩
  t0 := Try.underlying0
  a0 := Try.isAgg0
  z0 := Try.sizeOf0
  v0 := Try.zeroValue0
  t3 := Try.underlying3
  a3 := Try.isAgg3
  z3 := Try.sizeOf3
  v3 := Try.zeroValue3
  t4 := Try.underlying4
  a4 := Try.isAgg4
  z4 := Try.sizeOf4
  v4 := Try.zeroValue4
  t5 := Try.underlying5
  a5 := Try.isAgg5
  z5 := Try.sizeOf5
  v5 := Try.zeroValue5
  t9 := Try.underlying9
  a9 := Try.isAgg9
  z9 := Try.sizeOf9
  v9 := Try.zeroValue9
  t22 := Try.underlying24
  a22 := Try.isAgg24
  z22 := Try.sizeOf24
  v22 := Try.zeroValue24
  t23 := Try.underlying2
  a23 := Try.isAgg2
  z23 := Try.sizeOf2
  v23 := Try.zeroValue2
  t44 := Try.underlying83
  a44 := Try.isAgg83
  z44 := Try.sizeOf83
  v44 := Try.zeroValue83
  t51 := Try.underlying70
  a51 := Try.isAgg70
  z51 := Try.sizeOf70
  v51 := Try.zeroValue70
  t60 := Try.underlying77
  a60 := Try.isAgg77
  z60 := Try.sizeOf77
  v60 := Try.zeroValue77
  t61 := Try.underlying78
  a61 := Try.isAgg78
  z61 := Try.sizeOf78
  v61 := Try.zeroValue78
  t67 := Try.underlying86
  a67 := Try.isAgg86
  z67 := Try.sizeOf86
  v67 := Try.zeroValue86
  t69 := Try.underlying60
  a69 := Try.isAgg60
  z69 := Try.sizeOf60
  v69 := Try.zeroValue60
  t75 := Try.underlying88
  a75 := Try.isAgg88
  z75 := Try.sizeOf88
  v75 := Try.zeroValue88
  t79 := Try.underlying92
  a79 := Try.isAgg92
  z79 := Try.sizeOf92
  v79 := Try.zeroValue92
  t83 := Try.underlying94
  a83 := Try.isAgg94
  z83 := Try.sizeOf94
  v83 := Try.zeroValue94
  t84 := Try.underlying95
  a84 := Try.isAgg95
  z84 := Try.sizeOf95
  v84 := Try.zeroValue95 }
def Try.del64_ren : Go.Shelf.Ren := ⟨fun | 45 => 28 | n => n, fun | 22 => 24 | 23 => 2 | 3 => 3 | 4 => 4 | 0 => 0 | n => n, fun | n => n⟩
theorem Try.del64 : Go.Proofs.SlLaysN.n45 Try.prog Try.del64_ren := {
  mixed := by kernel_rfl
  f45 := ⟨Try.f28.name, by decide, Try.func28.trans (congrArg some (by kernel_rfl))⟩
  t0 := Try.underlying0
  a0 := Try.isAgg0
  z0 := Try.sizeOf0
  v0 := Try.zeroValue0
  t3 := Try.underlying3
  a3 := Try.isAgg3
  z3 := Try.sizeOf3
  v3 := Try.zeroValue3
  t4 := Try.underlying4
  a4 := Try.isAgg4
  z4 := Try.sizeOf4
  v4 := Try.zeroValue4
  t22 := Try.underlying24
  a22 := Try.isAgg24
  z22 := Try.sizeOf24
  v22 := Try.zeroValue24
  t23 := Try.underlying2
  a23 := Try.isAgg2
  z23 := Try.sizeOf2
  v23 := Try.zeroValue2
  i23 := by kernel_rfl }
end Go.Proofs
