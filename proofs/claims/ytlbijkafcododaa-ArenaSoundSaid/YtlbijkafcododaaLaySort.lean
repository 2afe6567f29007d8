/-
  slices.SortFunc's family at the elements of arena (layer 28): the shelf's contracts laid at this program.
  Conditions: none.
-/
import Derived.Test.YtlbijkafcododaaChecked
import Derived.Shelf.SlSortCmp.WholeK
namespace Go.Proofs
open Go.Shelf
def Try.lSrt_ren : Go.Shelf.Ren := ⟨fun | 6 => 159 | 14 => 185 | 15 => 186 | 20 => 199 | 21 => 200 | 22 => 201 | 23 => 202 | 24 => 203 | 25 => 204 | 26 => 205 | 27 => 206 | 28 => 207 | 29 => 208 | 46 => 211 | 47 => 212 | 48 => 213 | 49 => 214 | 50 => 215 | 57 => 216 | n => n, fun | 3 => 3 | 4 => 4 | 5 => 5 | 9 => 9 | 22 => 159 | 24 => 161 | 25 => 192 | 39 => 196 | 45 => 229 | 46 => 230 | 50 => 38 | 53 => 122 | 55 => 169 | 66 => 238 | 70 => 242 | 76 => 244 | 77 => 208 | n => n, fun | n => n⟩
theorem Try.lSrt : Go.Proofs.SlLaysF0.n6 Try.prog Try.lSrt_ren := {
  mixed := by kernel_rfl
  f6 := ⟨Try.f159.name, by decide, Try.func159.trans (congrArg some (by kernel_rfl))⟩
  f14 := ⟨Try.f185.name, by decide, Try.func185.trans (congrArg some (by kernel_rfl))⟩
  f15 := Try.func186.trans (congrArg some (by kernel_rfl))
  f20 := ⟨Try.f199.name, by decide, Try.func199.trans (congrArg some (by kernel_rfl))⟩
  f21 := ⟨Try.f200.name, by decide, Try.func200.trans (congrArg some (by kernel_rfl))⟩
  f22 := ⟨Try.f201.name, by decide, Try.func201.trans (congrArg some (by kernel_rfl))⟩
  f23 := ⟨Try.f202.name, by decide, Try.func202.trans (congrArg some (by kernel_rfl))⟩
  f24 := ⟨Try.f203.name, by decide, Try.func203.trans (congrArg some (by kernel_rfl))⟩
  f25 := ⟨Try.f204.name, by decide, Try.func204.trans (congrArg some (by kernel_rfl))⟩
  f26 := ⟨Try.f205.name, by decide, Try.func205.trans (congrArg some (by kernel_rfl))⟩
  f27 := ⟨Try.f206.name, by decide, Try.func206.trans (congrArg some (by kernel_rfl))⟩
  f28 := Try.func207.trans (congrArg some (by kernel_rfl))
  f29 := Try.func208.trans (congrArg some (by kernel_rfl))
  f46 := ⟨Try.f211.name, by decide, Try.func211.trans (congrArg some (by kernel_rfl))⟩
  f47 := Try.func212.trans (congrArg some (by kernel_rfl))
  f48 := Try.func213.trans (congrArg some (by kernel_rfl))
  f49 := ⟨Try.f214.name, by decide, Try.func214.trans (congrArg some (by kernel_rfl))⟩
  f50 := ⟨Try.f215.name, by decide, Try.func215.trans (congrArg some (by kernel_rfl))⟩
  f57 := ⟨Try.f216.name, by decide, Try.func216.trans (congrArg some (by kernel_rfl))⟩
  t0 := Try.underlying0
  a0 := Try.isAgg0
  z0 := Try.sizeOf0
  v0 := Try.zeroValue0
  t3 := Try.underlying3
  a3 := Try.isAgg3
  z3 := Try.sizeOf3
  v3 := Try.zeroValue3
  t4 := Try.underlying4
  a4 := Try.isAgg4
  z4 := Try.sizeOf4
  v4 := Try.zeroValue4
  t5 := Try.underlying5
  a5 := Try.isAgg5
  z5 := Try.sizeOf5
  v5 := Try.zeroValue5
  t9 := Try.underlying9
  a9 := Try.isAgg9
  z9 := Try.sizeOf9
  v9 := Try.zeroValue9
  t22 := Try.underlying159
  a22 := Try.isAgg159
  z22 := Try.sizeOf159
  v22 := Try.zeroValue159
  t25 := Try.underlying192
  a25 := Try.isAgg192
  z25 := Try.sizeOf192
  v25 := Try.zeroValue192
  t39 := Try.underlying196
  a39 := Try.isAgg196
  z39 := Try.sizeOf196
  v39 := Try.zeroValue196
  t45 := Try.underlying229
  a45 := Try.isAgg229
  z45 := Try.sizeOf229
  v45 := Try.zeroValue229
  t46 := Try.underlying230
  a46 := Try.isAgg230
  z46 := Try.sizeOf230
  v46 := Try.zeroValue230
  t50 := Try.underlying38
  a50 := Try.isAgg38
  z50 := Try.sizeOf38
  v50 := Try.zeroValue38
  t53 := Try.underlying122
  a53 := Try.isAgg122
  z53 := Try.sizeOf122
  v53 := Try.zeroValue122
  t55 := Try.underlying169
  a55 := Try.isAgg169
  z55 := Try.sizeOf169
  v55 := Try.zeroValue169
  t66 := Try.underlying238
  a66 := Try.isAgg238
  z66 := Try.sizeOf238
  v66 := Try.zeroValue238
  t70 := Try.underlying242
  a70 := Try.isAgg242
  z70 := Try.sizeOf242
  v70 := Try.zeroValue242
  t76 := Try.underlying244
  a76 := Try.isAgg244
  z76 := Try.sizeOf244
  v76 := Try.zeroValue244
  t77 := Try.underlying208
  a77 := Try.isAgg208
  z77 := Try.sizeOf208
  v77 := Try.zeroValue208 }
end Go.Proofs
