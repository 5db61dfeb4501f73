/-
  DERIVED: THE SHELF's CONTRACTS AT THIS DUMP, IN PLAIN WORDS (tools/lay-plain.mjs out of 'YtogdmjcdfjnifaaShelfS.lean', which tools/lay-shelf.mjs wrote): THE SAME DECLARATIONS UNDER THE SAME NAMES: 'import', 'namespace', 'open', 'def', 'theorem' AND NOTHING ELSE: no command of the shelf's: FOR A HAND-IN. Each laying: the table of numbers ('.._ren') and one theorem, a field a fact of the dump's own or the kernel's comparison; each contract: ONE APPLICATION.
-/
import Derived.Shelf.SlGeneric
import Derived.Shelf.SlicesE.Compact
import Derived.Shelf.SortG.Plain
import Derived.Shelf.SortG.SortNone
import Derived.Test.YtogdmjcdfjnifaaProg
namespace Go.Proofs
open Go.Shelf
def Try.sortL_ren : Go.Shelf.Ren := ⟨fun | 53 => 83 | 64 => 87 | 63 => 86 | 78 => 97 | 79 => 98 | 70 => 88 | 71 => 89 | 72 => 90 | 73 => 91 | 74 => 92 | 75 => 93 | 59 => 94 | 76 => 95 | 77 => 96 | 88 => 99 | 89 => 100 | 90 => 101 | 91 => 102 | 92 => 103 | 68 => 104 | 96 => 105 | n => n, fun | 22 => 22 | 23 => 2 | 3 => 3 | 51 => 82 | 0 => 0 | 67 => 98 | 69 => 100 | 4 => 4 | 61 => 91 | 60 => 90 | 44 => 78 | 5 => 5 | 9 => 9 | 75 => 101 | 79 => 105 | 83 => 107 | 84 => 108 | n => n, fun | n => n⟩
theorem Try.sortL : Go.Proofs.SlLaysN.n53 Try.prog Try.sortL_ren := {
  mixed := by kernel_rfl
  f53 := ⟨Try.f83.name, by decide, Try.func83.trans (congrArg some (by kernel_rfl))⟩
  f59 := ⟨Try.f94.name, by decide, Try.func94.trans (congrArg some (by kernel_rfl))⟩
  f63 := ⟨Try.f86.name, by decide, Try.func86.trans (congrArg some (by kernel_rfl))⟩
  f64 := Try.func87.trans (congrArg some (by kernel_rfl))
  f68 := ⟨Try.f104.name, by decide, Try.func104.trans (congrArg some (by kernel_rfl))⟩
  f70 := ⟨Try.f88.name, by decide, Try.func88.trans (congrArg some (by kernel_rfl))⟩
  f71 := ⟨Try.f89.name, by decide, Try.func89.trans (congrArg some (by kernel_rfl))⟩
  f72 := ⟨Try.f90.name, by decide, Try.func90.trans (congrArg some (by kernel_rfl))⟩
  f73 := ⟨Try.f91.name, by decide, Try.func91.trans (congrArg some (by kernel_rfl))⟩
  f74 := ⟨Try.f92.name, by decide, Try.func92.trans (congrArg some (by kernel_rfl))⟩
  f75 := ⟨Try.f93.name, by decide, Try.func93.trans (congrArg some (by kernel_rfl))⟩
  f76 := ⟨Try.f95.name, by decide, Try.func95.trans (congrArg some (by kernel_rfl))⟩
  f77 := ⟨Try.f96.name, by decide, Try.func96.trans (congrArg some (by kernel_rfl))⟩
  f78 := Try.func97.trans (congrArg some (by kernel_rfl))
  f79 := Try.func98.trans (congrArg some (by kernel_rfl))
  f88 := ⟨Try.f99.name, by decide, Try.func99.trans (congrArg some (by kernel_rfl))⟩
  f89 := Try.func100.trans (congrArg some (by kernel_rfl))
  f90 := Try.func101.trans (congrArg some (by kernel_rfl))
  f91 := ⟨Try.f102.name, by decide, Try.func102.trans (congrArg some (by kernel_rfl))⟩
  f92 := ⟨Try.f103.name, by decide, Try.func103.trans (congrArg some (by kernel_rfl))⟩
  f96 := ⟨Try.f105.name, by decide, Try.func105.trans (congrArg some (by kernel_rfl))⟩
  t0 := Try.underlying0
  a0 := Try.isAgg0
  z0 := Try.sizeOf0
  v0 := Try.zeroValue0
  t3 := Try.underlying3
  a3 := Try.isAgg3
  z3 := Try.sizeOf3
  v3 := Try.zeroValue3
  t4 := Try.underlying4
  a4 := Try.isAgg4
  z4 := Try.sizeOf4
  v4 := Try.zeroValue4
  t5 := Try.underlying5
  a5 := Try.isAgg5
  z5 := Try.sizeOf5
  v5 := Try.zeroValue5
  t9 := Try.underlying9
  a9 := Try.isAgg9
  z9 := Try.sizeOf9
  v9 := Try.zeroValue9
  t22 := Try.underlying22
  a22 := Try.isAgg22
  z22 := Try.sizeOf22
  v22 := Try.zeroValue22
  t23 := Try.underlying2
  a23 := Try.isAgg2
  z23 := Try.sizeOf2
  v23 := Try.zeroValue2
  t44 := Try.underlying78
  a44 := Try.isAgg78
  z44 := Try.sizeOf78
  v44 := Try.zeroValue78
  t51 := Try.underlying82
  a51 := Try.isAgg82
  z51 := Try.sizeOf82
  v51 := Try.zeroValue82
  t60 := Try.underlying90
  a60 := Try.isAgg90
  z60 := Try.sizeOf90
  v60 := Try.zeroValue90
  t61 := Try.underlying91
  a61 := Try.isAgg91
  z61 := Try.sizeOf91
  v61 := Try.zeroValue91
  t67 := Try.underlying98
  a67 := Try.isAgg98
  z67 := Try.sizeOf98
  v67 := Try.zeroValue98
  t69 := Try.underlying100
  a69 := Try.isAgg100
  z69 := Try.sizeOf100
  v69 := Try.zeroValue100
  t75 := Try.underlying101
  a75 := Try.isAgg101
  z75 := Try.sizeOf101
  v75 := Try.zeroValue101
  t79 := Try.underlying105
  a79 := Try.isAgg105
  z79 := Try.sizeOf105
  v79 := Try.zeroValue105
  t83 := Try.underlying107
  a83 := Try.isAgg107
  z83 := Try.sizeOf107
  v83 := Try.zeroValue107
  t84 := Try.underlying108
  a84 := Try.isAgg108
  z84 := Try.sizeOf108
  v84 := Try.zeroValue108 }
def Try.compactL_ren : Go.Shelf.Ren := ⟨fun | 43 => 84 | n => n, fun | 22 => 22 | 23 => 2 | 3 => 3 | 4 => 4 | 0 => 0 | n => n, fun | n => n⟩
theorem Try.compactL : Go.Proofs.SlLaysE.n43 Try.prog Try.compactL_ren := {
  mixed := by kernel_rfl
  f43 := ⟨Try.f84.name, by decide, Try.func84.trans (congrArg some (by kernel_rfl))⟩
  t0 := Try.underlying0
  a0 := Try.isAgg0
  z0 := Try.sizeOf0
  v0 := Try.zeroValue0
  t3 := Try.underlying3
  a3 := Try.isAgg3
  z3 := Try.sizeOf3
  v3 := Try.zeroValue3
  t4 := Try.underlying4
  a4 := Try.isAgg4
  z4 := Try.sizeOf4
  v4 := Try.zeroValue4
  t22 := Try.underlying22
  a22 := Try.isAgg22
  z22 := Try.sizeOf22
  v22 := Try.zeroValue22
  a23 := Try.isAgg2
  z23 := Try.sizeOf2 }
end Go.Proofs
