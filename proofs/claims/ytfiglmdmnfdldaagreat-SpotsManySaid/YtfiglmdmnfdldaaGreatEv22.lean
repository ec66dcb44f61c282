/- One of the texts that this claim stands on. -/
import Derived.Shelf.Sort.Plain
import Derived.Test.YtfiglmdmnfdldaaGreatProg
set_option linter.unusedVariables false
set_option linter.unusedSimpArgs false
namespace Go.Proofs
open Go.Shelf
def Tryz.lays189_ren : Go.Shelf.Ren := ⟨fun | 189 => 239 | 125 => 174 | 257 => 275 | 128 => 224 | 129 => 225 | 294 => 294 | 295 => 295 | 296 => 296 | 297 => 297 | 298 => 298 | 299 => 299 | 216 => 300 | 300 => 301 | 301 => 302 | 328 => 308 | 329 => 266 | 330 => 267 | 331 => 309 | 332 => 310 | 215 => 181 | 343 => 312 | n => n, fun | 28 => 66 | 3 => 3 | 46 => 221 | 0 => 0 | 51 => 268 | 53 => 49 | 4 => 4 | 183 => 261 | 182 => 260 | 131 => 265 | 5 => 5 | 9 => 9 | 218 => 302 | 222 => 306 | 228 => 322 | 229 => 56 | n => n, fun | n => n⟩
theorem Tryz.lays189 : Go.Proofs.Lays.n189 Tryz.prog Tryz.lays189_ren := {
  mixed := by kernel_rfl
  f125 := Tryz.func174.trans (congrArg some (by kernel_rfl))
  f128 := Tryz.func224.trans (congrArg some (by kernel_rfl))
  f129 := Tryz.func225.trans (congrArg some (by kernel_rfl))
  f189 := Tryz.func239.trans (congrArg some (by kernel_rfl))
  f215 := Tryz.func181.trans (congrArg some (by kernel_rfl))
  f216 := Tryz.func300.trans (congrArg some (by kernel_rfl))
  f257 := Tryz.func275.trans (congrArg some (by kernel_rfl))
  f294 := Tryz.func294.trans (congrArg some (by kernel_rfl))
  f295 := Tryz.func295.trans (congrArg some (by kernel_rfl))
  f296 := Tryz.func296.trans (congrArg some (by kernel_rfl))
  f297 := Tryz.func297.trans (congrArg some (by kernel_rfl))
  f298 := Tryz.func298.trans (congrArg some (by kernel_rfl))
  f299 := Tryz.func299.trans (congrArg some (by kernel_rfl))
  f300 := Tryz.func301.trans (congrArg some (by kernel_rfl))
  f301 := Tryz.func302.trans (congrArg some (by kernel_rfl))
  f328 := Tryz.func308.trans (congrArg some (by kernel_rfl))
  f329 := Tryz.func266.trans (congrArg some (by kernel_rfl))
  f330 := Tryz.func267.trans (congrArg some (by kernel_rfl))
  f331 := Tryz.func309.trans (congrArg some (by kernel_rfl))
  f332 := Tryz.func310.trans (congrArg some (by kernel_rfl))
  f343 := Tryz.func312.trans (congrArg some (by kernel_rfl))
  t0 := Tryz.underlying0
  a0 := Tryz.isAgg0
  z0 := Tryz.sizeOf0
  v0 := Tryz.zeroValue0
  t3 := Tryz.underlying3
  a3 := Tryz.isAgg3
  z3 := Tryz.sizeOf3
  v3 := Tryz.zeroValue3
  t4 := Tryz.underlying4
  a4 := Tryz.isAgg4
  z4 := Tryz.sizeOf4
  v4 := Tryz.zeroValue4
  t5 := Tryz.underlying5
  a5 := Tryz.isAgg5
  z5 := Tryz.sizeOf5
  v5 := Tryz.zeroValue5
  t9 := Tryz.underlying9
  a9 := Tryz.isAgg9
  z9 := Tryz.sizeOf9
  v9 := Tryz.zeroValue9
  t28 := Tryz.underlying66
  a28 := Tryz.isAgg66
  z28 := Tryz.sizeOf66
  v28 := Tryz.zeroValue66
  t46 := Tryz.underlying221
  a46 := Tryz.isAgg221
  z46 := Tryz.sizeOf221
  v46 := Tryz.zeroValue221
  t51 := Tryz.underlying268
  a51 := Tryz.isAgg268
  z51 := Tryz.sizeOf268
  v51 := Tryz.zeroValue268
  t53 := Tryz.underlying49
  a53 := Tryz.isAgg49
  z53 := Tryz.sizeOf49
  v53 := Tryz.zeroValue49
  t131 := Tryz.underlying265
  a131 := Tryz.isAgg265
  z131 := Tryz.sizeOf265
  v131 := Tryz.zeroValue265
  t182 := Tryz.underlying260
  a182 := Tryz.isAgg260
  z182 := Tryz.sizeOf260
  v182 := Tryz.zeroValue260
  t183 := Tryz.underlying261
  a183 := Tryz.isAgg261
  z183 := Tryz.sizeOf261
  v183 := Tryz.zeroValue261
  t218 := Tryz.underlying302
  a218 := Tryz.isAgg302
  z218 := Tryz.sizeOf302
  v218 := Tryz.zeroValue302
  t222 := Tryz.underlying306
  a222 := Tryz.isAgg306
  z222 := Tryz.sizeOf306
  v222 := Tryz.zeroValue306
  t228 := Tryz.underlying322
  a228 := Tryz.isAgg322
  z228 := Tryz.sizeOf322
  v228 := Tryz.zeroValue322
  t229 := Tryz.underlying56
  a229 := Tryz.isAgg56
  z229 := Tryz.sizeOf56
  v229 := Tryz.zeroValue56 }
open Go.Sort Go.RowKit in
theorem Tryz.slices_Sort_int (blk off cap : Nat) (zs : List Int) (w : World) (hH : Holds (Value.int .i64) w blk off zs.toArray) (hblk : blk < w.heap.size) (hsz : zs.length < 4611686018427387904) :
    Calls Tryz.prog 239 #[.slice (some ⟨blk, off, none⟩) zs.length cap] w fun e w' =>
      e = .returned (.tuple #[]) ∧ ∃ n os, w' = grow (putRow (Value.int .i64) (Sort.ahead w n) blk off (zs.mergeSort fun x y => decide (x ≤ y)).toArray) os := Any.slices_Sort_int Tryz.lays189 blk off cap zs w hH hblk hsz
end Go.Proofs
