/-
  Printed by a tool of the kit: contracts of the library laid at this program.
-/
import Derived.Shelf.SlGeneric
import Derived.Shelf.SortG.Plain
import Derived.Shelf.SortG.SortNone
import Derived.Shelf.SlicesG.CompactI
import Derived.Shelf.Spec.SlicesGrow
import Derived.Test.YteempjinbolkaaaProg
namespace Go.Proofs
open Go.Shelf
def Try.sort64_ren : Go.Shelf.Ren := ⟨fun | 53 => 49 | 64 => 104 | 63 => 103 | 78 => 142 | 79 => 143 | 70 => 133 | 71 => 134 | 72 => 135 | 73 => 136 | 74 => 137 | 75 => 138 | 59 => 139 | 76 => 140 | 77 => 141 | 88 => 154 | 89 => 155 | 90 => 156 | 91 => 157 | 92 => 158 | 68 => 114 | 96 => 163 | n => n, fun | 22 => 29 | 23 => 2 | 3 => 3 | 51 => 114 | 0 => 0 | 67 => 139 | 69 => 104 | 4 => 4 | 61 => 131 | 60 => 130 | 44 => 136 | 5 => 5 | 9 => 9 | 75 => 148 | 79 => 152 | 83 => 158 | 84 => 159 | n => n, fun | n => n⟩
theorem Try.sort64 : Go.Proofs.SlLaysN.n53 Try.prog Try.sort64_ren := {
  mixed := by kernel_rfl
  f53 := ⟨Try.f49.name, by decide, Try.func49.trans (congrArg some (by kernel_rfl))⟩
  f59 := ⟨Try.f139.name, by decide, Try.func139.trans (congrArg some (by kernel_rfl))⟩
  f63 := ⟨Try.f103.name, by decide, Try.func103.trans (congrArg some (by kernel_rfl))⟩
  f64 := Try.func104.trans (congrArg some (by kernel_rfl))
  f68 := ⟨Try.f114.name, by decide, Try.func114.trans (congrArg some (by kernel_rfl))⟩
  f70 := ⟨Try.f133.name, by decide, Try.func133.trans (congrArg some (by kernel_rfl))⟩
  f71 := ⟨Try.f134.name, by decide, Try.func134.trans (congrArg some (by kernel_rfl))⟩
  f72 := ⟨Try.f135.name, by decide, Try.func135.trans (congrArg some (by kernel_rfl))⟩
  f73 := ⟨Try.f136.name, by decide, Try.func136.trans (congrArg some (by kernel_rfl))⟩
  f74 := ⟨Try.f137.name, by decide, Try.func137.trans (congrArg some (by kernel_rfl))⟩
  f75 := ⟨Try.f138.name, by decide, Try.func138.trans (congrArg some (by kernel_rfl))⟩
  f76 := ⟨Try.f140.name, by decide, Try.func140.trans (congrArg some (by kernel_rfl))⟩
  f77 := ⟨Try.f141.name, by decide, Try.func141.trans (congrArg some (by kernel_rfl))⟩
  f78 := Try.func142.trans (congrArg some (by kernel_rfl))
  f79 := Try.func143.trans (congrArg some (by kernel_rfl))
  f88 := ⟨Try.f154.name, by decide, Try.func154.trans (congrArg some (by kernel_rfl))⟩
  f89 := Try.func155.trans (congrArg some (by kernel_rfl))
  f90 := Try.func156.trans (congrArg some (by kernel_rfl))
  f91 := ⟨Try.f157.name, by decide, Try.func157.trans (congrArg some (by kernel_rfl))⟩
  f92 := ⟨Try.f158.name, by decide, Try.func158.trans (congrArg some (by kernel_rfl))⟩
  f96 := ⟨Try.f163.name, by decide, Try.func163.trans (congrArg some (by kernel_rfl))⟩
  t0 := Try.underlying0
  a0 := Try.isAgg0
  z0 := Try.sizeOf0
  v0 := Try.zeroValue0
  t3 := Try.underlying3
  a3 := Try.isAgg3
  z3 := Try.sizeOf3
  v3 := Try.zeroValue3
  t4 := Try.underlying4
  a4 := Try.isAgg4
  z4 := Try.sizeOf4
  v4 := Try.zeroValue4
  t5 := Try.underlying5
  a5 := Try.isAgg5
  z5 := Try.sizeOf5
  v5 := Try.zeroValue5
  t9 := Try.underlying9
  a9 := Try.isAgg9
  z9 := Try.sizeOf9
  v9 := Try.zeroValue9
  t22 := Try.underlying29
  a22 := Try.isAgg29
  z22 := Try.sizeOf29
  v22 := Try.zeroValue29
  t23 := Try.underlying2
  a23 := Try.isAgg2
  z23 := Try.sizeOf2
  v23 := Try.zeroValue2
  t44 := Try.underlying136
  a44 := Try.isAgg136
  z44 := Try.sizeOf136
  v44 := Try.zeroValue136
  t51 := Try.underlying114
  a51 := Try.isAgg114
  z51 := Try.sizeOf114
  v51 := Try.zeroValue114
  t60 := Try.underlying130
  a60 := Try.isAgg130
  z60 := Try.sizeOf130
  v60 := Try.zeroValue130
  t61 := Try.underlying131
  a61 := Try.isAgg131
  z61 := Try.sizeOf131
  v61 := Try.zeroValue131
  t67 := Try.underlying139
  a67 := Try.isAgg139
  z67 := Try.sizeOf139
  v67 := Try.zeroValue139
  t69 := Try.underlying104
  a69 := Try.isAgg104
  z69 := Try.sizeOf104
  v69 := Try.zeroValue104
  t75 := Try.underlying148
  a75 := Try.isAgg148
  z75 := Try.sizeOf148
  v75 := Try.zeroValue148
  t79 := Try.underlying152
  a79 := Try.isAgg152
  z79 := Try.sizeOf152
  v79 := Try.zeroValue152
  t83 := Try.underlying158
  a83 := Try.isAgg158
  z83 := Try.sizeOf158
  v83 := Try.zeroValue158
  t84 := Try.underlying159
  a84 := Try.isAgg159
  z84 := Try.sizeOf159
  v84 := Try.zeroValue159 }
def Try.comp64_ren : Go.Shelf.Ren := ⟨fun | 43 => 50 | n => n, fun | 22 => 29 | 23 => 2 | 3 => 3 | 4 => 4 | 0 => 0 | n => n, fun | n => n⟩
theorem Try.comp64 : Go.Proofs.SlLaysN.n43 Try.prog Try.comp64_ren := {
  mixed := by kernel_rfl
  f43 := ⟨Try.f50.name, by decide, Try.func50.trans (congrArg some (by kernel_rfl))⟩
  t0 := Try.underlying0
  a0 := Try.isAgg0
  z0 := Try.sizeOf0
  v0 := Try.zeroValue0
  t3 := Try.underlying3
  a3 := Try.isAgg3
  z3 := Try.sizeOf3
  v3 := Try.zeroValue3
  t4 := Try.underlying4
  a4 := Try.isAgg4
  z4 := Try.sizeOf4
  v4 := Try.zeroValue4
  t22 := Try.underlying29
  a22 := Try.isAgg29
  z22 := Try.sizeOf29
  v22 := Try.zeroValue29
  t23 := Try.underlying2
  a23 := Try.isAgg2
  z23 := Try.sizeOf2
  v23 := Try.zeroValue2
  i23 := by kernel_rfl }
def Try.grow64_ren : Go.Shelf.Ren := ⟨fun | 4 => 102 | n => n, fun | 22 => 29 | 25 => 2 | 3 => 3 | 4 => 4 | 9 => 9 | 20 => 20 | 0 => 0 | n => n, fun | n => n⟩
theorem Try.grow64 : Go.Proofs.Lays8.n4 Try.prog Try.grow64_ren := {
  mixed := by kernel_rfl
  f4 := ⟨Try.f102.name, by decide, Try.func102.trans (congrArg some (by kernel_rfl))⟩
  t0 := Try.underlying0
  a0 := Try.isAgg0
  z0 := Try.sizeOf0
  v0 := Try.zeroValue0
  t3 := Try.underlying3
  a3 := Try.isAgg3
  z3 := Try.sizeOf3
  v3 := Try.zeroValue3
  t4 := Try.underlying4
  a4 := Try.isAgg4
  z4 := Try.sizeOf4
  v4 := Try.zeroValue4
  t9 := Try.underlying9
  a9 := Try.isAgg9
  z9 := Try.sizeOf9
  v9 := Try.zeroValue9
  t20 := Try.underlying20
  a20 := Try.isAgg20
  z20 := Try.sizeOf20
  v20 := Try.zeroValue20
  t22 := Try.underlying29
  a22 := Try.isAgg29
  z22 := Try.sizeOf29
  v22 := Try.zeroValue29 }
end Go.Proofs
