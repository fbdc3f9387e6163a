/- Part 4: SRT. -/
import Derived.Shelf.Sort.Plain
import Derived.Test.YtpjbcplpdjobjaaGreatProg
namespace Go.Proofs
open Go.Shelf
def Tryz.lays190_ren : Go.Shelf.Ren := ⟨fun | 190 => 173 | 125 => 239 | 258 => 238 | 128 => 290 | 129 => 291 | 302 => 281 | 303 => 282 | 304 => 283 | 305 => 284 | 306 => 285 | 307 => 286 | 308 => 287 | 309 => 288 | 310 => 289 | 333 => 315 | 329 => 316 | 330 => 317 | 334 => 318 | 335 => 319 | 336 => 320 | 344 => 330 | n => n, fun | 31 => 24 | 9 => 9 | 3 => 3 | 46 => 285 | 0 => 0 | 51 => 325 | 53 => 264 | 4 => 4 | 183 => 318 | 182 => 317 | 131 => 239 | 5 => 5 | 218 => 338 | 222 => 342 | 228 => 355 | 229 => 356 | n => n, fun | n => n⟩
theorem Tryz.lays190 : Go.Proofs.Lays.n190 Tryz.prog Tryz.lays190_ren := {
  mixed := by kernel_rfl
  f125 := Tryz.func239.trans (congrArg some (by kernel_rfl))
  f128 := Tryz.func290.trans (congrArg some (by kernel_rfl))
  f129 := Tryz.func291.trans (congrArg some (by kernel_rfl))
  f190 := Tryz.func173.trans (congrArg some (by kernel_rfl))
  f258 := Tryz.func238.trans (congrArg some (by kernel_rfl))
  f302 := Tryz.func281.trans (congrArg some (by kernel_rfl))
  f303 := Tryz.func282.trans (congrArg some (by kernel_rfl))
  f304 := Tryz.func283.trans (congrArg some (by kernel_rfl))
  f305 := Tryz.func284.trans (congrArg some (by kernel_rfl))
  f306 := Tryz.func285.trans (congrArg some (by kernel_rfl))
  f307 := Tryz.func286.trans (congrArg some (by kernel_rfl))
  f308 := Tryz.func287.trans (congrArg some (by kernel_rfl))
  f309 := Tryz.func288.trans (congrArg some (by kernel_rfl))
  f310 := Tryz.func289.trans (congrArg some (by kernel_rfl))
  f329 := Tryz.func316.trans (congrArg some (by kernel_rfl))
  f330 := Tryz.func317.trans (congrArg some (by kernel_rfl))
  f333 := Tryz.func315.trans (congrArg some (by kernel_rfl))
  f334 := Tryz.func318.trans (congrArg some (by kernel_rfl))
  f335 := Tryz.func319.trans (congrArg some (by kernel_rfl))
  f336 := Tryz.func320.trans (congrArg some (by kernel_rfl))
  f344 := Tryz.func330.trans (congrArg some (by kernel_rfl))
  t0 := Tryz.underlying0
  a0 := Tryz.isAgg0
  z0 := Tryz.sizeOf0
  v0 := Tryz.zeroValue0
  t3 := Tryz.underlying3
  a3 := Tryz.isAgg3
  z3 := Tryz.sizeOf3
  v3 := Tryz.zeroValue3
  t4 := Tryz.underlying4
  a4 := Tryz.isAgg4
  z4 := Tryz.sizeOf4
  v4 := Tryz.zeroValue4
  t5 := Tryz.underlying5
  a5 := Tryz.isAgg5
  z5 := Tryz.sizeOf5
  v5 := Tryz.zeroValue5
  t9 := Tryz.underlying9
  a9 := Tryz.isAgg9
  z9 := Tryz.sizeOf9
  v9 := Tryz.zeroValue9
  t31 := Tryz.underlying24
  a31 := Tryz.isAgg24
  z31 := Tryz.sizeOf24
  v31 := Tryz.zeroValue24
  t46 := Tryz.underlying285
  a46 := Tryz.isAgg285
  z46 := Tryz.sizeOf285
  v46 := Tryz.zeroValue285
  t51 := Tryz.underlying325
  a51 := Tryz.isAgg325
  z51 := Tryz.sizeOf325
  v51 := Tryz.zeroValue325
  t53 := Tryz.underlying264
  a53 := Tryz.isAgg264
  z53 := Tryz.sizeOf264
  v53 := Tryz.zeroValue264
  t131 := Tryz.underlying239
  a131 := Tryz.isAgg239
  z131 := Tryz.sizeOf239
  v131 := Tryz.zeroValue239
  t182 := Tryz.underlying317
  a182 := Tryz.isAgg317
  z182 := Tryz.sizeOf317
  v182 := Tryz.zeroValue317
  t183 := Tryz.underlying318
  a183 := Tryz.isAgg318
  z183 := Tryz.sizeOf318
  v183 := Tryz.zeroValue318
  t218 := Tryz.underlying338
  a218 := Tryz.isAgg338
  z218 := Tryz.sizeOf338
  v218 := Tryz.zeroValue338
  t222 := Tryz.underlying342
  a222 := Tryz.isAgg342
  z222 := Tryz.sizeOf342
  v222 := Tryz.zeroValue342
  t228 := Tryz.underlying355
  a228 := Tryz.isAgg355
  z228 := Tryz.sizeOf355
  v228 := Tryz.zeroValue355
  t229 := Tryz.underlying356
  a229 := Tryz.isAgg356
  z229 := Tryz.sizeOf356
  v229 := Tryz.zeroValue356 }
open Go.Sort Go.RowKit in
theorem Tryz.slices_Sort_string (kA off cap : Nat) (ss : List (List UInt8)) (w : World) (hH : Holds encStr w kA off ss.toArray) (hblk : kA < w.heap.size) (lg : ss.length < 4611686018427387904) :
    Calls Tryz.prog 173 #[.slice (some ⟨kA, off, none⟩) ss.length cap] w fun e w' =>
      e = .returned (.tuple #[]) ∧ ∃ n os, w' = grow (putRow encStr (Sort.ahead w n) kA off (ss.mergeSort fun x y => decide (x ≤ y)).toArray) os := Any.slices_Sort_string Tryz.lays190 kA off cap ss w hH hblk lg
end Go.Proofs
