/- Contracts of the library, laid at this program by the kit: slices_Sort_int, slices_Sort_int_none, slices_Compact_int, slices_Compact_int_empty. -/
import Derived.Shelf.Sort.Plain
import Derived.Ground.Names2Prog
import Derived.Shelf.Slices.CompactI
import Derived.Shelf.Slices.SearchI
import Derived.Shelf.Slices.In.SortNone
import Derived.Test.YtjbokkoiicoahaaGreatProg
namespace Go.Proofs
open Go.Shelf
def Tryz.lays189_ren : Go.Shelf.Ren := ⟨fun | 189 => 165 | 125 => 191 | 257 => 190 | 128 => 205 | 129 => 206 | 294 => 196 | 295 => 197 | 296 => 198 | 297 => 199 | 298 => 200 | 299 => 201 | 216 => 202 | 300 => 203 | 301 => 204 | 328 => 210 | 329 => 211 | 330 => 212 | 331 => 213 | 332 => 214 | 215 => 215 | 343 => 216 | n => n, fun | 28 => 29 | 3 => 3 | 46 => 232 | 0 => 0 | 51 => 247 | 53 => 249 | 4 => 4 | 183 => 240 | 182 => 239 | 131 => 210 | 5 => 5 | 9 => 9 | 218 => 253 | 222 => 257 | 228 => 260 | 229 => 261 | n => n, fun | n => n⟩
theorem Tryz.lays189 : Go.Proofs.Lays.n189 Tryz.prog Tryz.lays189_ren := {
 mixed := by kernel_rfl
 f125 := Tryz.func191.trans (congrArg some (by kernel_rfl))
 f128 := Tryz.func205.trans (congrArg some (by kernel_rfl))
 f129 := Tryz.func206.trans (congrArg some (by kernel_rfl))
 f189 := Tryz.func165.trans (congrArg some (by kernel_rfl))
 f215 := Tryz.func215.trans (congrArg some (by kernel_rfl))
 f216 := Tryz.func202.trans (congrArg some (by kernel_rfl))
 f257 := Tryz.func190.trans (congrArg some (by kernel_rfl))
 f294 := Tryz.func196.trans (congrArg some (by kernel_rfl))
 f295 := Tryz.func197.trans (congrArg some (by kernel_rfl))
 f296 := Tryz.func198.trans (congrArg some (by kernel_rfl))
 f297 := Tryz.func199.trans (congrArg some (by kernel_rfl))
 f298 := Tryz.func200.trans (congrArg some (by kernel_rfl))
 f299 := Tryz.func201.trans (congrArg some (by kernel_rfl))
 f300 := Tryz.func203.trans (congrArg some (by kernel_rfl))
 f301 := Tryz.func204.trans (congrArg some (by kernel_rfl))
 f328 := Tryz.func210.trans (congrArg some (by kernel_rfl))
 f329 := Tryz.func211.trans (congrArg some (by kernel_rfl))
 f330 := Tryz.func212.trans (congrArg some (by kernel_rfl))
 f331 := Tryz.func213.trans (congrArg some (by kernel_rfl))
 f332 := Tryz.func214.trans (congrArg some (by kernel_rfl))
 f343 := Tryz.func216.trans (congrArg some (by kernel_rfl))
 t0 := Tryz.underlying0
 a0 := Tryz.isAgg0
 z0 := Tryz.sizeOf0
 v0 := Tryz.zeroValue0
 t3 := Tryz.underlying3
 a3 := Tryz.isAgg3
 z3 := Tryz.sizeOf3
 v3 := Tryz.zeroValue3
 t4 := Tryz.underlying4
 a4 := Tryz.isAgg4
 z4 := Tryz.sizeOf4
 v4 := Tryz.zeroValue4
 t5 := Tryz.underlying5
 a5 := Tryz.isAgg5
 z5 := Tryz.sizeOf5
 v5 := Tryz.zeroValue5
 t9 := Tryz.underlying9
 a9 := Tryz.isAgg9
 z9 := Tryz.sizeOf9
 v9 := Tryz.zeroValue9
 t28 := Tryz.underlying29
 a28 := Tryz.isAgg29
 z28 := Tryz.sizeOf29
 v28 := Tryz.zeroValue29
 t46 := Tryz.underlying232
 a46 := Tryz.isAgg232
 z46 := Tryz.sizeOf232
 v46 := Tryz.zeroValue232
 t51 := Tryz.underlying247
 a51 := Tryz.isAgg247
 z51 := Tryz.sizeOf247
 v51 := Tryz.zeroValue247
 t53 := Tryz.underlying249
 a53 := Tryz.isAgg249
 z53 := Tryz.sizeOf249
 v53 := Tryz.zeroValue249
 t131 := Tryz.underlying210
 a131 := Tryz.isAgg210
 z131 := Tryz.sizeOf210
 v131 := Tryz.zeroValue210
 t182 := Tryz.underlying239
 a182 := Tryz.isAgg239
 z182 := Tryz.sizeOf239
 v182 := Tryz.zeroValue239
 t183 := Tryz.underlying240
 a183 := Tryz.isAgg240
 z183 := Tryz.sizeOf240
 v183 := Tryz.zeroValue240
 t218 := Tryz.underlying253
 a218 := Tryz.isAgg253
 z218 := Tryz.sizeOf253
 v218 := Tryz.zeroValue253
 t222 := Tryz.underlying257
 a222 := Tryz.isAgg257
 z222 := Tryz.sizeOf257
 v222 := Tryz.zeroValue257
 t228 := Tryz.underlying260
 a228 := Tryz.isAgg260
 z228 := Tryz.sizeOf260
 v228 := Tryz.zeroValue260
 t229 := Tryz.underlying261
 a229 := Tryz.isAgg261
 z229 := Tryz.sizeOf261
 v229 := Tryz.zeroValue261 }
open Go.Sort Go.RowKit in
theorem Tryz.slices_Sort_int (blk off cap : Nat) (zs : List Int) (w : World) (hH : Holds (Value.int .i64) w blk off zs.toArray) (hblk : blk < w.heap.size) (hsz : zs.length < 4611686018427387904) :
  Calls Tryz.prog 165 #[.slice (some ⟨blk, off, none⟩) zs.length cap] w fun e w' =>
   e = .returned (.tuple #[]) ∧ ∃ n os, w' = grow (putRow (Value.int .i64) (Sort.ahead w n) blk off (zs.mergeSort fun x y => decide (x ≤ y)).toArray) os := Any.slices_Sort_int Tryz.lays189 blk off cap zs w hH hblk hsz
open Go.RowKit Go.Sort in
theorem Tryz.slices_Sort_int_none (p : Option Addr) (cap : Nat) (w : World) :
 Calls Tryz.prog 165 #[.slice p 0 cap] w fun e w' => e = .returned (.tuple #[]) ∧ w' = w := Any.slices_Sort_int_none Tryz.lays189 p cap w
def Tryz.laysNm220_ren : Go.Shelf.Ren := ⟨fun | 20 => 166 | n => n, fun | 22 => 29 | 3 => 3 | 4 => 4 | 0 => 0 | n => n, fun | n => n⟩
theorem Tryz.laysNm220 : Go.Proofs.Lays2.n20 Tryz.prog Tryz.laysNm220_ren := {
 mixed := by kernel_rfl
 f20 := Tryz.func166.trans (congrArg some (by kernel_rfl))
 t0 := Tryz.underlying0
 a0 := Tryz.isAgg0
 z0 := Tryz.sizeOf0
 v0 := Tryz.zeroValue0
 t3 := Tryz.underlying3
 a3 := Tryz.isAgg3
 z3 := Tryz.sizeOf3
 v3 := Tryz.zeroValue3
 t4 := Tryz.underlying4
 a4 := Tryz.isAgg4
 z4 := Tryz.sizeOf4
 v4 := Tryz.zeroValue4
 t22 := Tryz.underlying29
 a22 := Tryz.isAgg29
 z22 := Tryz.sizeOf29
 v22 := Tryz.zeroValue29
 i3 := by kernel_rfl }
open Go.RowKit Go.Lib Go.Sort in
theorem Tryz.slices_Compact_int (blk off cap : Nat) (zs : List Int) (w : World) (hH : Holds (Value.int .i64) w blk off zs.toArray) (hsz : zs.length ≤ 9223372036854775807) (hcap : zs.length ≤ cap) :
 Calls Tryz.prog 166 #[.slice (some ⟨blk, off, none⟩) zs.length cap] w fun e w' => e = .returned (.slice (some ⟨blk, off, none⟩) (Lib.compact zs).length cap) ∧ ∃ q, w' = putRow (Value.int .i64) (Sort.ahead w q) blk off (Lib.compact zs ++ List.replicate (zs.length - (Lib.compact zs).length) 0).toArray := Any.slices_Compact_int Tryz.laysNm220 blk off cap zs w hH hsz hcap
open Go.RowKit Go.Lib Go.Sort in
theorem Tryz.slices_Compact_int_empty (a : Option Addr) (cap : Nat) (w : World) :
 Calls Tryz.prog 166 #[.slice a 0 cap] w fun e w' => e = .returned (.slice a 0 cap) ∧ w' = w := Any.slices_Compact_int_empty Tryz.laysNm220 a cap w
end Go.Proofs
