/-
  Printed by a tool of the kit: contracts of the library laid at this program.
-/
import Derived.Shelf.SlGeneric
import Derived.Shelf.SortG.Plain
import Derived.Shelf.SortG.SortNone
import Derived.Shelf.SlicesG.Delete
import Derived.Test.YtnnoknjcnehbeaaProg
namespace Go.Proofs
open Go.Shelf
def Try.sort64_ren : Go.Shelf.Ren := ⟨fun | 53 => 46 | 64 => 77 | 63 => 76 | 78 => 93 | 79 => 94 | 70 => 84 | 71 => 85 | 72 => 86 | 73 => 87 | 74 => 88 | 75 => 89 | 59 => 90 | 76 => 91 | 77 => 92 | 88 => 95 | 89 => 96 | 90 => 97 | 91 => 98 | 92 => 99 | 68 => 100 | 96 => 101 | n => n, fun | 22 => 24 | 23 => 2 | 3 => 3 | 51 => 87 | 0 => 0 | 67 => 101 | 69 => 77 | 4 => 4 | 61 => 93 | 60 => 92 | 44 => 98 | 5 => 5 | 9 => 9 | 75 => 103 | 79 => 107 | 83 => 109 | 84 => 110 | n => n, fun | n => n⟩
theorem Try.sort64 : Go.Proofs.SlLaysN.n53 Try.prog Try.sort64_ren := {
  mixed := by kernel_rfl
  f53 := ⟨Try.f46.name, by decide, Try.func46.trans (congrArg some (by kernel_rfl))⟩
  f59 := ⟨Try.f90.name, by decide, Try.func90.trans (congrArg some (by kernel_rfl))⟩
  f63 := ⟨Try.f76.name, by decide, Try.func76.trans (congrArg some (by kernel_rfl))⟩
  f64 := Try.func77.trans (congrArg some (by kernel_rfl))
  f68 := ⟨Try.f100.name, by decide, Try.func100.trans (congrArg some (by kernel_rfl))⟩
  f70 := ⟨Try.f84.name, by decide, Try.func84.trans (congrArg some (by kernel_rfl))⟩
  f71 := ⟨Try.f85.name, by decide, Try.func85.trans (congrArg some (by kernel_rfl))⟩
  f72 := ⟨Try.f86.name, by decide, Try.func86.trans (congrArg some (by kernel_rfl))⟩
  f73 := ⟨Try.f87.name, by decide, Try.func87.trans (congrArg some (by kernel_rfl))⟩
  f74 := ⟨Try.f88.name, by decide, Try.func88.trans (congrArg some (by kernel_rfl))⟩
  f75 := ⟨Try.f89.name, by decide, Try.func89.trans (congrArg some (by kernel_rfl))⟩
  f76 := ⟨Try.f91.name, by decide, Try.func91.trans (congrArg some (by kernel_rfl))⟩
  f77 := ⟨Try.f92.name, by decide, Try.func92.trans (congrArg some (by kernel_rfl))⟩
  f78 := Try.func93.trans (congrArg some (by kernel_rfl))
  f79 := Try.func94.trans (congrArg some (by kernel_rfl))
  f88 := ⟨Try.f95.name, by decide, Try.func95.trans (congrArg some (by kernel_rfl))⟩
  f89 := Try.func96.trans (congrArg some (by kernel_rfl))
  f90 := Try.func97.trans (congrArg some (by kernel_rfl))
  f91 := ⟨Try.f98.name, by decide, Try.func98.trans (congrArg some (by kernel_rfl))⟩
  f92 := ⟨Try.f99.name, by decide, Try.func99.trans (congrArg some (by kernel_rfl))⟩
  f96 := ⟨Try.f101.name, by decide, Try.func101.trans (congrArg some (by kernel_rfl))⟩
  t0 := Try.underlying0
  a0 := Try.isAgg0
  z0 := Try.sizeOf0
  v0 := Try.zeroValue0
  t3 := Try.underlying3
  a3 := Try.isAgg3
  z3 := Try.sizeOf3
  v3 := Try.zeroValue3
  t4 := Try.underlying4
  a4 := Try.isAgg4
  z4 := Try.sizeOf4
  v4 := Try.zeroValue4
  t5 := Try.underlying5
  a5 := Try.isAgg5
  z5 := Try.sizeOf5
  v5 := Try.zeroValue5
  t9 := Try.underlying9
  a9 := Try.isAgg9
  z9 := Try.sizeOf9
  v9 := Try.zeroValue9
  t22 := Try.underlying24
  a22 := Try.isAgg24
  z22 := Try.sizeOf24
  v22 := Try.zeroValue24
  t23 := Try.underlying2
  a23 := Try.isAgg2
  z23 := Try.sizeOf2
  v23 := Try.zeroValue2
  t44 := Try.underlying98
  a44 := Try.isAgg98
  z44 := Try.sizeOf98
  v44 := Try.zeroValue98
  t51 := Try.underlying87
  a51 := Try.isAgg87
  z51 := Try.sizeOf87
  v51 := Try.zeroValue87
  t60 := Try.underlying92
  a60 := Try.isAgg92
  z60 := Try.sizeOf92
  v60 := Try.zeroValue92
  t61 := Try.underlying93
  a61 := Try.isAgg93
  z61 := Try.sizeOf93
  v61 := Try.zeroValue93
  t67 := Try.underlying101
  a67 := Try.isAgg101
  z67 := Try.sizeOf101
  v67 := Try.zeroValue101
  t69 := Try.underlying77
  a69 := Try.isAgg77
  z69 := Try.sizeOf77
  v69 := Try.zeroValue77
  t75 := Try.underlying103
  a75 := Try.isAgg103
  z75 := Try.sizeOf103
  v75 := Try.zeroValue103
  t79 := Try.underlying107
  a79 := Try.isAgg107
  z79 := Try.sizeOf107
  v79 := Try.zeroValue107
  t83 := Try.underlying109
  a83 := Try.isAgg109
  z83 := Try.sizeOf109
  v83 := Try.zeroValue109
  t84 := Try.underlying110
  a84 := Try.isAgg110
  z84 := Try.sizeOf110
  v84 := Try.zeroValue110 }
def Try.del64_ren : Go.Shelf.Ren := ⟨fun | 45 => 42 | n => n, fun | 22 => 24 | 23 => 2 | 3 => 3 | 4 => 4 | 0 => 0 | n => n, fun | n => n⟩
theorem Try.del64 : Go.Proofs.SlLaysN.n45 Try.prog Try.del64_ren := {
  mixed := by kernel_rfl
  f45 := ⟨Try.f42.name, by decide, Try.func42.trans (congrArg some (by kernel_rfl))⟩
  t0 := Try.underlying0
  a0 := Try.isAgg0
  z0 := Try.sizeOf0
  v0 := Try.zeroValue0
  t3 := Try.underlying3
  a3 := Try.isAgg3
  z3 := Try.sizeOf3
  v3 := Try.zeroValue3
  t4 := Try.underlying4
  a4 := Try.isAgg4
  z4 := Try.sizeOf4
  v4 := Try.zeroValue4
  t22 := Try.underlying24
  a22 := Try.isAgg24
  z22 := Try.sizeOf24
  v22 := Try.zeroValue24
  t23 := Try.underlying2
  a23 := Try.isAgg2
  z23 := Try.sizeOf2
  v23 := Try.zeroValue2
  i23 := by kernel_rfl }
end Go.Proofs
