/-
  Printed by a tool of the kit: contracts of the library laid at this program.
-/
import Derived.Shelf.SlGeneric
import Derived.Shelf.SortG.Plain
import Derived.Shelf.SortG.SortNone
import Derived.Shelf.SlicesG.CompactI
import Derived.Test.YtlcijhpjbkekpaaProg
namespace Go.Proofs
open Go.Shelf
def Try.sort64_ren : Go.Shelf.Ren := ⟨fun | 53 => 21 | 64 => 34 | 63 => 33 | 78 => 47 | 79 => 48 | 70 => 38 | 71 => 39 | 72 => 40 | 73 => 41 | 74 => 42 | 75 => 43 | 59 => 44 | 76 => 45 | 77 => 46 | 88 => 50 | 89 => 51 | 90 => 52 | 91 => 53 | 92 => 54 | 68 => 55 | 96 => 56 | n => n, fun | 22 => 22 | 23 => 2 | 3 => 3 | 51 => 54 | 0 => 0 | 67 => 66 | 69 => 68 | 4 => 4 | 61 => 58 | 60 => 57 | 44 => 63 | 5 => 5 | 9 => 9 | 75 => 70 | 79 => 74 | 83 => 76 | 84 => 77 | n => n, fun | n => n⟩
theorem Try.sort64 : Go.Proofs.SlLaysN.n53 Try.prog Try.sort64_ren := {
  mixed := by kernel_rfl
  f53 := ⟨Try.f21.name, by decide, Try.func21.trans (congrArg some (by kernel_rfl))⟩
  f59 := ⟨Try.f44.name, by decide, Try.func44.trans (congrArg some (by kernel_rfl))⟩
  f63 := ⟨Try.f33.name, by decide, Try.func33.trans (congrArg some (by kernel_rfl))⟩
  f64 := Try.func34.trans (congrArg some (by kernel_rfl))
  f68 := ⟨Try.f55.name, by decide, Try.func55.trans (congrArg some (by kernel_rfl))⟩
  f70 := ⟨Try.f38.name, by decide, Try.func38.trans (congrArg some (by kernel_rfl))⟩
  f71 := ⟨Try.f39.name, by decide, Try.func39.trans (congrArg some (by kernel_rfl))⟩
  f72 := ⟨Try.f40.name, by decide, Try.func40.trans (congrArg some (by kernel_rfl))⟩
  f73 := ⟨Try.f41.name, by decide, Try.func41.trans (congrArg some (by kernel_rfl))⟩
  f74 := ⟨Try.f42.name, by decide, Try.func42.trans (congrArg some (by kernel_rfl))⟩
  f75 := ⟨Try.f43.name, by decide, Try.func43.trans (congrArg some (by kernel_rfl))⟩
  f76 := ⟨Try.f45.name, by decide, Try.func45.trans (congrArg some (by kernel_rfl))⟩
  f77 := ⟨Try.f46.name, by decide, Try.func46.trans (congrArg some (by kernel_rfl))⟩
  f78 := Try.func47.trans (congrArg some (by kernel_rfl))
  f79 := Try.func48.trans (congrArg some (by kernel_rfl))
  f88 := ⟨Try.f50.name, by decide, Try.func50.trans (congrArg some (by kernel_rfl))⟩
  f89 := Try.func51.trans (congrArg some (by kernel_rfl))
  f90 := Try.func52.trans (congrArg some (by kernel_rfl))
  f91 := ⟨Try.f53.name, by decide, Try.func53.trans (congrArg some (by kernel_rfl))⟩
  f92 := ⟨Try.f54.name, by decide, Try.func54.trans (congrArg some (by kernel_rfl))⟩
  f96 := ⟨Try.f56.name, by decide, Try.func56.trans (congrArg some (by kernel_rfl))⟩
  t0 := Try.underlying0
  a0 := Try.isAgg0
  z0 := Try.sizeOf0
  v0 := Try.zeroValue0
  t3 := Try.underlying3
  a3 := Try.isAgg3
  z3 := Try.sizeOf3
  v3 := Try.zeroValue3
  t4 := Try.underlying4
  a4 := Try.isAgg4
  z4 := Try.sizeOf4
  v4 := Try.zeroValue4
  t5 := Try.underlying5
  a5 := Try.isAgg5
  z5 := Try.sizeOf5
  v5 := Try.zeroValue5
  t9 := Try.underlying9
  a9 := Try.isAgg9
  z9 := Try.sizeOf9
  v9 := Try.zeroValue9
  t22 := Try.underlying22
  a22 := Try.isAgg22
  z22 := Try.sizeOf22
  v22 := Try.zeroValue22
  t23 := Try.underlying2
  a23 := Try.isAgg2
  z23 := Try.sizeOf2
  v23 := Try.zeroValue2
  t44 := Try.underlying63
  a44 := Try.isAgg63
  z44 := Try.sizeOf63
  v44 := Try.zeroValue63
  t51 := Try.underlying54
  a51 := Try.isAgg54
  z51 := Try.sizeOf54
  v51 := Try.zeroValue54
  t60 := Try.underlying57
  a60 := Try.isAgg57
  z60 := Try.sizeOf57
  v60 := Try.zeroValue57
  t61 := Try.underlying58
  a61 := Try.isAgg58
  z61 := Try.sizeOf58
  v61 := Try.zeroValue58
  t67 := Try.underlying66
  a67 := Try.isAgg66
  z67 := Try.sizeOf66
  v67 := Try.zeroValue66
  t69 := Try.underlying68
  a69 := Try.isAgg68
  z69 := Try.sizeOf68
  v69 := Try.zeroValue68
  t75 := Try.underlying70
  a75 := Try.isAgg70
  z75 := Try.sizeOf70
  v75 := Try.zeroValue70
  t79 := Try.underlying74
  a79 := Try.isAgg74
  z79 := Try.sizeOf74
  v79 := Try.zeroValue74
  t83 := Try.underlying76
  a83 := Try.isAgg76
  z83 := Try.sizeOf76
  v83 := Try.zeroValue76
  t84 := Try.underlying77
  a84 := Try.isAgg77
  z84 := Try.sizeOf77
  v84 := Try.zeroValue77 }
def Try.comp64_ren : Go.Shelf.Ren := ⟨fun | 43 => 22 | n => n, fun | 22 => 22 | 23 => 2 | 3 => 3 | 4 => 4 | 0 => 0 | n => n, fun | n => n⟩
theorem Try.comp64 : Go.Proofs.SlLaysN.n43 Try.prog Try.comp64_ren := {
  mixed := by kernel_rfl
  f43 := ⟨Try.f22.name, by decide, Try.func22.trans (congrArg some (by kernel_rfl))⟩
  t0 := Try.underlying0
  a0 := Try.isAgg0
  z0 := Try.sizeOf0
  v0 := Try.zeroValue0
  t3 := Try.underlying3
  a3 := Try.isAgg3
  z3 := Try.sizeOf3
  v3 := Try.zeroValue3
  t4 := Try.underlying4
  a4 := Try.isAgg4
  z4 := Try.sizeOf4
  v4 := Try.zeroValue4
  t22 := Try.underlying22
  a22 := Try.isAgg22
  z22 := Try.sizeOf22
  v22 := Try.zeroValue22
  t23 := Try.underlying2
  a23 := Try.isAgg2
  z23 := Try.sizeOf2
  v23 := Try.zeroValue2
  i23 := by kernel_rfl }
end Go.Proofs
