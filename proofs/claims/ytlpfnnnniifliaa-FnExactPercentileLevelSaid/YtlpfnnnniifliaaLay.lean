/-
  Printed by a tool of the kit: contracts of the library laid at this program.
-/
import Derived.Shelf.SlGeneric
import Derived.Shelf.SortG.Plain
import Derived.Shelf.SortG.SortNone
import Derived.Test.YtlpfnnnniifliaaProg
namespace Go.Proofs
open Go.Shelf
def Try.sort64_ren : Go.Shelf.Ren := ⟨fun | 53 => 25 | 64 => 40 | 63 => 39 | 78 => 54 | 79 => 55 | 70 => 45 | 71 => 46 | 72 => 47 | 73 => 48 | 74 => 49 | 75 => 50 | 59 => 51 | 76 => 52 | 77 => 53 | 88 => 57 | 89 => 58 | 90 => 59 | 91 => 60 | 92 => 61 | 68 => 62 | 96 => 63 | n => n, fun | 22 => 22 | 23 => 2 | 3 => 3 | 51 => 58 | 0 => 0 | 67 => 72 | 69 => 74 | 4 => 4 | 61 => 64 | 60 => 63 | 44 => 69 | 5 => 5 | 9 => 9 | 75 => 76 | 79 => 80 | 83 => 82 | 84 => 83 | n => n, fun | n => n⟩
theorem Try.sort64 : Go.Proofs.SlLaysN.n53 Try.prog Try.sort64_ren := {
  mixed := by kernel_rfl
  f53 := ⟨Try.f25.name, by decide, Try.func25.trans (congrArg some (by kernel_rfl))⟩
  f59 := ⟨Try.f51.name, by decide, Try.func51.trans (congrArg some (by kernel_rfl))⟩
  f63 := ⟨Try.f39.name, by decide, Try.func39.trans (congrArg some (by kernel_rfl))⟩
  f64 := Try.func40.trans (congrArg some (by kernel_rfl))
  f68 := ⟨Try.f62.name, by decide, Try.func62.trans (congrArg some (by kernel_rfl))⟩
  f70 := ⟨Try.f45.name, by decide, Try.func45.trans (congrArg some (by kernel_rfl))⟩
  f71 := ⟨Try.f46.name, by decide, Try.func46.trans (congrArg some (by kernel_rfl))⟩
  f72 := ⟨Try.f47.name, by decide, Try.func47.trans (congrArg some (by kernel_rfl))⟩
  f73 := ⟨Try.f48.name, by decide, Try.func48.trans (congrArg some (by kernel_rfl))⟩
  f74 := ⟨Try.f49.name, by decide, Try.func49.trans (congrArg some (by kernel_rfl))⟩
  f75 := ⟨Try.f50.name, by decide, Try.func50.trans (congrArg some (by kernel_rfl))⟩
  f76 := ⟨Try.f52.name, by decide, Try.func52.trans (congrArg some (by kernel_rfl))⟩
  f77 := ⟨Try.f53.name, by decide, Try.func53.trans (congrArg some (by kernel_rfl))⟩
  f78 := Try.func54.trans (congrArg some (by kernel_rfl))
  f79 := Try.func55.trans (congrArg some (by kernel_rfl))
  f88 := ⟨Try.f57.name, by decide, Try.func57.trans (congrArg some (by kernel_rfl))⟩
  f89 := Try.func58.trans (congrArg some (by kernel_rfl))
  f90 := Try.func59.trans (congrArg some (by kernel_rfl))
  f91 := ⟨Try.f60.name, by decide, Try.func60.trans (congrArg some (by kernel_rfl))⟩
  f92 := ⟨Try.f61.name, by decide, Try.func61.trans (congrArg some (by kernel_rfl))⟩
  f96 := ⟨Try.f63.name, by decide, Try.func63.trans (congrArg some (by kernel_rfl))⟩
  t0 := Try.underlying0
  a0 := Try.isAgg0
  z0 := Try.sizeOf0
  v0 := Try.zeroValue0
  t3 := Try.underlying3
  a3 := Try.isAgg3
  z3 := Try.sizeOf3
  v3 := Try.zeroValue3
  t4 := Try.underlying4
  a4 := Try.isAgg4
  z4 := Try.sizeOf4
  v4 := Try.zeroValue4
  t5 := Try.underlying5
  a5 := Try.isAgg5
  z5 := Try.sizeOf5
  v5 := Try.zeroValue5
  t9 := Try.underlying9
  a9 := Try.isAgg9
  z9 := Try.sizeOf9
  v9 := Try.zeroValue9
  t22 := Try.underlying22
  a22 := Try.isAgg22
  z22 := Try.sizeOf22
  v22 := Try.zeroValue22
  t23 := Try.underlying2
  a23 := Try.isAgg2
  z23 := Try.sizeOf2
  v23 := Try.zeroValue2
  t44 := Try.underlying69
  a44 := Try.isAgg69
  z44 := Try.sizeOf69
  v44 := Try.zeroValue69
  t51 := Try.underlying58
  a51 := Try.isAgg58
  z51 := Try.sizeOf58
  v51 := Try.zeroValue58
  t60 := Try.underlying63
  a60 := Try.isAgg63
  z60 := Try.sizeOf63
  v60 := Try.zeroValue63
  t61 := Try.underlying64
  a61 := Try.isAgg64
  z61 := Try.sizeOf64
  v61 := Try.zeroValue64
  t67 := Try.underlying72
  a67 := Try.isAgg72
  z67 := Try.sizeOf72
  v67 := Try.zeroValue72
  t69 := Try.underlying74
  a69 := Try.isAgg74
  z69 := Try.sizeOf74
  v69 := Try.zeroValue74
  t75 := Try.underlying76
  a75 := Try.isAgg76
  z75 := Try.sizeOf76
  v75 := Try.zeroValue76
  t79 := Try.underlying80
  a79 := Try.isAgg80
  z79 := Try.sizeOf80
  v79 := Try.zeroValue80
  t83 := Try.underlying82
  a83 := Try.isAgg82
  z83 := Try.sizeOf82
  v83 := Try.zeroValue82
  t84 := Try.underlying83
  a84 := Try.isAgg83
  z84 := Try.sizeOf83
  v84 := Try.zeroValue83 }
end Go.Proofs
