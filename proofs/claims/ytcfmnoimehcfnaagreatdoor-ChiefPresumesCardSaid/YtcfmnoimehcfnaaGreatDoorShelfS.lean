/- The shelf's contracts of sorting at this program, laid by the kit's own tool. Conditions: none. -/
import Derived.Shelf.Sort.Plain
import Derived.Shelf.Slices.In.SortNone
import Derived.Test.YtcfmnoimehcfnaaGreatDoorProg
namespace Go.Proofs
open Go.Shelf
def Tryz.lays189_ren : Go.Shelf.Ren := ⟨fun | 189 => 290 | 125 => 312 | 257 => 311 | 128 => 336 | 129 => 337 | 294 => 327 | 295 => 328 | 296 => 329 | 297 => 330 | 298 => 331 | 299 => 332 | 216 => 333 | 300 => 334 | 301 => 335 | 328 => 348 | 329 => 349 | 330 => 350 | 331 => 351 | 332 => 352 | 215 => 353 | 343 => 364 | n => n, fun | 28 => 56 | 3 => 3 | 46 => 113 | 0 => 0 | 51 => 356 | 53 => 27 | 4 => 4 | 183 => 350 | 182 => 349 | 131 => 241 | 5 => 5 | 9 => 9 | 218 => 368 | 222 => 372 | 228 => 387 | 229 => 193 | n => n, fun | n => n⟩
theorem Tryz.lays189 : Go.Proofs.Lays.n189 Tryz.prog Tryz.lays189_ren := {
  mixed := by kernel_rfl
  f125 := Tryz.func312.trans (congrArg some (by kernel_rfl))
  f128 := Tryz.func336.trans (congrArg some (by kernel_rfl))
  f129 := Tryz.func337.trans (congrArg some (by kernel_rfl))
  f189 := Tryz.func290.trans (congrArg some (by kernel_rfl))
  f215 := Tryz.func353.trans (congrArg some (by kernel_rfl))
  f216 := Tryz.func333.trans (congrArg some (by kernel_rfl))
  f257 := Tryz.func311.trans (congrArg some (by kernel_rfl))
  f294 := Tryz.func327.trans (congrArg some (by kernel_rfl))
  f295 := Tryz.func328.trans (congrArg some (by kernel_rfl))
  f296 := Tryz.func329.trans (congrArg some (by kernel_rfl))
  f297 := Tryz.func330.trans (congrArg some (by kernel_rfl))
  f298 := Tryz.func331.trans (congrArg some (by kernel_rfl))
  f299 := Tryz.func332.trans (congrArg some (by kernel_rfl))
  f300 := Tryz.func334.trans (congrArg some (by kernel_rfl))
  f301 := Tryz.func335.trans (congrArg some (by kernel_rfl))
  f328 := Tryz.func348.trans (congrArg some (by kernel_rfl))
  f329 := Tryz.func349.trans (congrArg some (by kernel_rfl))
  f330 := Tryz.func350.trans (congrArg some (by kernel_rfl))
  f331 := Tryz.func351.trans (congrArg some (by kernel_rfl))
  f332 := Tryz.func352.trans (congrArg some (by kernel_rfl))
  f343 := Tryz.func364.trans (congrArg some (by kernel_rfl))
  t0 := Tryz.underlying0
  a0 := Tryz.isAgg0
  z0 := Tryz.sizeOf0
  v0 := Tryz.zeroValue0
  t3 := Tryz.underlying3
  a3 := Tryz.isAgg3
  z3 := Tryz.sizeOf3
  v3 := Tryz.zeroValue3
  t4 := Tryz.underlying4
  a4 := Tryz.isAgg4
  z4 := Tryz.sizeOf4
  v4 := Tryz.zeroValue4
  t5 := Tryz.underlying5
  a5 := Tryz.isAgg5
  z5 := Tryz.sizeOf5
  v5 := Tryz.zeroValue5
  t9 := Tryz.underlying9
  a9 := Tryz.isAgg9
  z9 := Tryz.sizeOf9
  v9 := Tryz.zeroValue9
  t28 := Tryz.underlying56
  a28 := Tryz.isAgg56
  z28 := Tryz.sizeOf56
  v28 := Tryz.zeroValue56
  t46 := Tryz.underlying113
  a46 := Tryz.isAgg113
  z46 := Tryz.sizeOf113
  v46 := Tryz.zeroValue113
  t51 := Tryz.underlying356
  a51 := Tryz.isAgg356
  z51 := Tryz.sizeOf356
  v51 := Tryz.zeroValue356
  t53 := Tryz.underlying27
  a53 := Tryz.isAgg27
  z53 := Tryz.sizeOf27
  v53 := Tryz.zeroValue27
  t131 := Tryz.underlying241
  a131 := Tryz.isAgg241
  z131 := Tryz.sizeOf241
  v131 := Tryz.zeroValue241
  t182 := Tryz.underlying349
  a182 := Tryz.isAgg349
  z182 := Tryz.sizeOf349
  v182 := Tryz.zeroValue349
  t183 := Tryz.underlying350
  a183 := Tryz.isAgg350
  z183 := Tryz.sizeOf350
  v183 := Tryz.zeroValue350
  t218 := Tryz.underlying368
  a218 := Tryz.isAgg368
  z218 := Tryz.sizeOf368
  v218 := Tryz.zeroValue368
  t222 := Tryz.underlying372
  a222 := Tryz.isAgg372
  z222 := Tryz.sizeOf372
  v222 := Tryz.zeroValue372
  t228 := Tryz.underlying387
  a228 := Tryz.isAgg387
  z228 := Tryz.sizeOf387
  v228 := Tryz.zeroValue387
  t229 := Tryz.underlying193
  a229 := Tryz.isAgg193
  z229 := Tryz.sizeOf193
  v229 := Tryz.zeroValue193 }
open Go.Sort Go.RowKit in
theorem Tryz.slices_Sort_int (blk off cap : Nat) (zs : List Int) (w : World) (hH : Holds (Value.int .i64) w blk off zs.toArray) (hblk : blk < w.heap.size) (hsz : zs.length < 4611686018427387904) :
    Calls Tryz.prog 290 #[.slice (some ⟨blk, off, none⟩) zs.length cap] w fun e w' =>
      e = .returned (.tuple #[]) ∧ ∃ n os, w' = grow (putRow (Value.int .i64) (Sort.ahead w n) blk off (zs.mergeSort fun x y => decide (x ≤ y)).toArray) os := Any.slices_Sort_int Tryz.lays189 blk off cap zs w hH hblk hsz
open Go.RowKit Go.Sort in
theorem Tryz.slices_Sort_int_none (p : Option Addr) (cap : Nat) (w : World) :
    Calls Tryz.prog 290 #[.slice p 0 cap] w fun e w' => e = .returned (.tuple #[]) ∧ w' = w := Any.slices_Sort_int_none Tryz.lays189 p cap w
end Go.Proofs
