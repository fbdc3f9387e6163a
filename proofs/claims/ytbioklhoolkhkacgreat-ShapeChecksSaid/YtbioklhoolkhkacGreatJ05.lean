/- Part 5: SRT. -/
import Derived.Shelf.Sort.Plain
import Derived.Test.YtbioklhoolkhkacGreatProg
namespace Go.Proofs
open Go.Shelf
def Tryz.lays190_ren : Go.Shelf.Ren := ⟨fun | 190 => 129 | 125 => 195 | 258 => 194 | 128 => 247 | 129 => 248 | 302 => 238 | 303 => 239 | 304 => 240 | 305 => 241 | 306 => 242 | 307 => 243 | 308 => 244 | 309 => 245 | 310 => 246 | 333 => 276 | 329 => 277 | 330 => 278 | 334 => 279 | 335 => 280 | 336 => 281 | 344 => 291 | n => n, fun | 31 => 24 | 9 => 9 | 3 => 3 | 46 => 256 | 0 => 0 | 51 => 297 | 53 => 238 | 4 => 4 | 183 => 290 | 182 => 289 | 131 => 210 | 5 => 5 | 218 => 310 | 222 => 314 | 228 => 327 | 229 => 328 | n => n, fun | n => n⟩
theorem Tryz.lays190 : Go.Proofs.Lays.n190 Tryz.prog Tryz.lays190_ren := {
  mixed := by kernel_rfl
  f125 := Tryz.func195.trans (congrArg some (by kernel_rfl))
  f128 := Tryz.func247.trans (congrArg some (by kernel_rfl))
  f129 := Tryz.func248.trans (congrArg some (by kernel_rfl))
  f190 := Tryz.func129.trans (congrArg some (by kernel_rfl))
  f258 := Tryz.func194.trans (congrArg some (by kernel_rfl))
  f302 := Tryz.func238.trans (congrArg some (by kernel_rfl))
  f303 := Tryz.func239.trans (congrArg some (by kernel_rfl))
  f304 := Tryz.func240.trans (congrArg some (by kernel_rfl))
  f305 := Tryz.func241.trans (congrArg some (by kernel_rfl))
  f306 := Tryz.func242.trans (congrArg some (by kernel_rfl))
  f307 := Tryz.func243.trans (congrArg some (by kernel_rfl))
  f308 := Tryz.func244.trans (congrArg some (by kernel_rfl))
  f309 := Tryz.func245.trans (congrArg some (by kernel_rfl))
  f310 := Tryz.func246.trans (congrArg some (by kernel_rfl))
  f329 := Tryz.func277.trans (congrArg some (by kernel_rfl))
  f330 := Tryz.func278.trans (congrArg some (by kernel_rfl))
  f333 := Tryz.func276.trans (congrArg some (by kernel_rfl))
  f334 := Tryz.func279.trans (congrArg some (by kernel_rfl))
  f335 := Tryz.func280.trans (congrArg some (by kernel_rfl))
  f336 := Tryz.func281.trans (congrArg some (by kernel_rfl))
  f344 := Tryz.func291.trans (congrArg some (by kernel_rfl))
  t0 := Tryz.underlying0
  a0 := Tryz.isAgg0
  z0 := Tryz.sizeOf0
  v0 := Tryz.zeroValue0
  t3 := Tryz.underlying3
  a3 := Tryz.isAgg3
  z3 := Tryz.sizeOf3
  v3 := Tryz.zeroValue3
  t4 := Tryz.underlying4
  a4 := Tryz.isAgg4
  z4 := Tryz.sizeOf4
  v4 := Tryz.zeroValue4
  t5 := Tryz.underlying5
  a5 := Tryz.isAgg5
  z5 := Tryz.sizeOf5
  v5 := Tryz.zeroValue5
  t9 := Tryz.underlying9
  a9 := Tryz.isAgg9
  z9 := Tryz.sizeOf9
  v9 := Tryz.zeroValue9
  t31 := Tryz.underlying24
  a31 := Tryz.isAgg24
  z31 := Tryz.sizeOf24
  v31 := Tryz.zeroValue24
  t46 := Tryz.underlying256
  a46 := Tryz.isAgg256
  z46 := Tryz.sizeOf256
  v46 := Tryz.zeroValue256
  t51 := Tryz.underlying297
  a51 := Tryz.isAgg297
  z51 := Tryz.sizeOf297
  v51 := Tryz.zeroValue297
  t53 := Tryz.underlying238
  a53 := Tryz.isAgg238
  z53 := Tryz.sizeOf238
  v53 := Tryz.zeroValue238
  t131 := Tryz.underlying210
  a131 := Tryz.isAgg210
  z131 := Tryz.sizeOf210
  v131 := Tryz.zeroValue210
  t182 := Tryz.underlying289
  a182 := Tryz.isAgg289
  z182 := Tryz.sizeOf289
  v182 := Tryz.zeroValue289
  t183 := Tryz.underlying290
  a183 := Tryz.isAgg290
  z183 := Tryz.sizeOf290
  v183 := Tryz.zeroValue290
  t218 := Tryz.underlying310
  a218 := Tryz.isAgg310
  z218 := Tryz.sizeOf310
  v218 := Tryz.zeroValue310
  t222 := Tryz.underlying314
  a222 := Tryz.isAgg314
  z222 := Tryz.sizeOf314
  v222 := Tryz.zeroValue314
  t228 := Tryz.underlying327
  a228 := Tryz.isAgg327
  z228 := Tryz.sizeOf327
  v228 := Tryz.zeroValue327
  t229 := Tryz.underlying328
  a229 := Tryz.isAgg328
  z229 := Tryz.sizeOf328
  v229 := Tryz.zeroValue328 }
open Go.Sort Go.RowKit in
theorem Tryz.slices_Sort_string (lu off cap : Nat) (ss : List (List UInt8)) (w : World) (hH : Holds encStr w lu off ss.toArray) (hblk : lu < w.heap.size) (lC : ss.length < 4611686018427387904) :
    Calls Tryz.prog 129 #[.slice (some ⟨lu, off, none⟩) ss.length cap] w fun e w' =>
      e = .returned (.tuple #[]) ∧ ∃ n os, w' = grow (putRow encStr (Sort.ahead w n) lu off (ss.mergeSort fun x y => decide (x ≤ y)).toArray) os := Any.slices_Sort_string Tryz.lays190 lu off cap ss w hH hblk lC
end Go.Proofs
