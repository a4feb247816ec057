/-
  Printed by a tool of the kit: contracts of the library laid at this program.
-/
import Derived.Shelf.SlGeneric
import Derived.Shelf.SortG.Plain
import Derived.Shelf.SortG.SortNone
import Derived.Shelf.SlicesG.CompactI
import Derived.Test.YtkmhoebopfgpdaaProg
namespace Go.Proofs
open Go.Shelf
def Try.sort64_ren : Go.Shelf.Ren := ⟨fun | 53 => 71 | 64 => 94 | 63 => 93 | 78 => 116 | 79 => 117 | 70 => 107 | 71 => 108 | 72 => 109 | 73 => 110 | 74 => 111 | 75 => 112 | 59 => 113 | 76 => 114 | 77 => 115 | 88 => 124 | 89 => 125 | 90 => 126 | 91 => 127 | 92 => 128 | 68 => 78 | 96 => 130 | n => n, fun | 22 => 27 | 23 => 2 | 3 => 3 | 51 => 105 | 0 => 0 | 67 => 122 | 69 => 80 | 4 => 4 | 61 => 115 | 60 => 114 | 44 => 119 | 5 => 5 | 9 => 9 | 75 => 129 | 79 => 133 | 83 => 135 | 84 => 136 | n => n, fun | n => n⟩
theorem Try.sort64 : Go.Proofs.SlLaysN.n53 Try.prog Try.sort64_ren := {
  mixed := by kernel_rfl
  f53 := ⟨Try.f71.name, by decide, Try.func71.trans (congrArg some (by kernel_rfl))⟩
  f59 := ⟨Try.f113.name, by decide, Try.func113.trans (congrArg some (by kernel_rfl))⟩
  f63 := ⟨Try.f93.name, by decide, Try.func93.trans (congrArg some (by kernel_rfl))⟩
  f64 := Try.func94.trans (congrArg some (by kernel_rfl))
  f68 := ⟨Try.f78.name, by decide, Try.func78.trans (congrArg some (by kernel_rfl))⟩
  f70 := ⟨Try.f107.name, by decide, Try.func107.trans (congrArg some (by kernel_rfl))⟩
  f71 := ⟨Try.f108.name, by decide, Try.func108.trans (congrArg some (by kernel_rfl))⟩
  f72 := ⟨Try.f109.name, by decide, Try.func109.trans (congrArg some (by kernel_rfl))⟩
  f73 := ⟨Try.f110.name, by decide, Try.func110.trans (congrArg some (by kernel_rfl))⟩
  f74 := ⟨Try.f111.name, by decide, Try.func111.trans (congrArg some (by kernel_rfl))⟩
  f75 := ⟨Try.f112.name, by decide, Try.func112.trans (congrArg some (by kernel_rfl))⟩
  f76 := ⟨Try.f114.name, by decide, Try.func114.trans (congrArg some (by kernel_rfl))⟩
  f77 := ⟨Try.f115.name, by decide, Try.func115.trans (congrArg some (by kernel_rfl))⟩
  f78 := Try.func116.trans (congrArg some (by kernel_rfl))
  f79 := Try.func117.trans (congrArg some (by kernel_rfl))
  f88 := ⟨Try.f124.name, by decide, Try.func124.trans (congrArg some (by kernel_rfl))⟩
  f89 := Try.func125.trans (congrArg some (by kernel_rfl))
  f90 := Try.func126.trans (congrArg some (by kernel_rfl))
  f91 := ⟨Try.f127.name, by decide, Try.func127.trans (congrArg some (by kernel_rfl))⟩
  f92 := ⟨Try.f128.name, by decide, Try.func128.trans (congrArg some (by kernel_rfl))⟩
  f96 := ⟨Try.f130.name, by decide, Try.func130.trans (congrArg some (by kernel_rfl))⟩
  t0 := Try.underlying0
  a0 := Try.isAgg0
  z0 := Try.sizeOf0
  v0 := Try.zeroValue0
  t3 := Try.underlying3
  a3 := Try.isAgg3
  z3 := Try.sizeOf3
  v3 := Try.zeroValue3
  t4 := Try.underlying4
  a4 := Try.isAgg4
  z4 := Try.sizeOf4
  v4 := Try.zeroValue4
  t5 := Try.underlying5
  a5 := Try.isAgg5
  z5 := Try.sizeOf5
  v5 := Try.zeroValue5
  t9 := Try.underlying9
  a9 := Try.isAgg9
  z9 := Try.sizeOf9
  v9 := Try.zeroValue9
  t22 := Try.underlying27
  a22 := Try.isAgg27
  z22 := Try.sizeOf27
  v22 := Try.zeroValue27
  t23 := Try.underlying2
  a23 := Try.isAgg2
  z23 := Try.sizeOf2
  v23 := Try.zeroValue2
  t44 := Try.underlying119
  a44 := Try.isAgg119
  z44 := Try.sizeOf119
  v44 := Try.zeroValue119
  t51 := Try.underlying105
  a51 := Try.isAgg105
  z51 := Try.sizeOf105
  v51 := Try.zeroValue105
  t60 := Try.underlying114
  a60 := Try.isAgg114
  z60 := Try.sizeOf114
  v60 := Try.zeroValue114
  t61 := Try.underlying115
  a61 := Try.isAgg115
  z61 := Try.sizeOf115
  v61 := Try.zeroValue115
  t67 := Try.underlying122
  a67 := Try.isAgg122
  z67 := Try.sizeOf122
  v67 := Try.zeroValue122
  t69 := Try.underlying80
  a69 := Try.isAgg80
  z69 := Try.sizeOf80
  v69 := Try.zeroValue80
  t75 := Try.underlying129
  a75 := Try.isAgg129
  z75 := Try.sizeOf129
  v75 := Try.zeroValue129
  t79 := Try.underlying133
  a79 := Try.isAgg133
  z79 := Try.sizeOf133
  v79 := Try.zeroValue133
  t83 := Try.underlying135
  a83 := Try.isAgg135
  z83 := Try.sizeOf135
  v83 := Try.zeroValue135
  t84 := Try.underlying136
  a84 := Try.isAgg136
  z84 := Try.sizeOf136
  v84 := Try.zeroValue136 }
def Try.comp64_ren : Go.Shelf.Ren := ⟨fun | 43 => 53 | n => n, fun | 22 => 27 | 23 => 2 | 3 => 3 | 4 => 4 | 0 => 0 | n => n, fun | n => n⟩
theorem Try.comp64 : Go.Proofs.SlLaysN.n43 Try.prog Try.comp64_ren := {
  mixed := by kernel_rfl
  f43 := ⟨Try.f53.name, by decide, Try.func53.trans (congrArg some (by kernel_rfl))⟩
  t0 := Try.underlying0
  a0 := Try.isAgg0
  z0 := Try.sizeOf0
  v0 := Try.zeroValue0
  t3 := Try.underlying3
  a3 := Try.isAgg3
  z3 := Try.sizeOf3
  v3 := Try.zeroValue3
  t4 := Try.underlying4
  a4 := Try.isAgg4
  z4 := Try.sizeOf4
  v4 := Try.zeroValue4
  t22 := Try.underlying27
  a22 := Try.isAgg27
  z22 := Try.sizeOf27
  v22 := Try.zeroValue27
  t23 := Try.underlying2
  a23 := Try.isAgg2
  z23 := Try.sizeOf2
  v23 := Try.zeroValue2
  i23 := by kernel_rfl }
end Go.Proofs
