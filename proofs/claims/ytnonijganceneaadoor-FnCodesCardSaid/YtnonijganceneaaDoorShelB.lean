/- More of the library's contracts at this seat's dump, laid by the kit's shelf in plain words. -/
import Derived.Ground.MnProg
import Derived.Shelf.Bin.LEUint16
import Derived.Shelf.Bin.LEAppendUint16
import Derived.Shelf.Bin.LEUint32
import Derived.Shelf.Bin.LEAppendUint32
import Derived.Shelf.Bin.BEUint16
import Derived.Shelf.Bin.BEAppendUint16
import Derived.Shelf.Bin.BEUint32
import Derived.Shelf.Bin.BEAppendUint32
import Derived.Shelf.Bin.BEAppendUint32Arg
import Derived.Shelf.Bin.BEUint32Panics
import Derived.Shelf.Bin.ReadersZ
import Derived.Shelf.Unicode.Decode
import Derived.Shelf.Bits.Mul64
import Derived.Shelf.Unicode.DecodeSlow
import Derived.Shelf.Unicode.DecodeAny
import Derived.Test.YtnonijganceneaaDoorProg
namespace Go.Proofs
open Go.Shelf
def Tryd.laysBin29_ren : Go.Shelf.Ren := ⟨fun | 29 => 268 | n => n, fun | 25 => 185 | 22 => 22 | 23 => 133 | 0 => 0 | 5 => 5 | 45 => 146 | n => n, fun | n => n⟩
theorem Tryd.laysBin29 : Go.Proofs.LaysBin.n29 Tryd.prog Tryd.laysBin29_ren := {
  mixed := by kernel_rfl
  f29 := Tryd.func268.trans (congrArg some (by kernel_rfl))
  t0 := Tryd.underlying0
  a0 := Tryd.isAgg0
  z0 := Tryd.sizeOf0
  v0 := Tryd.zeroValue0
  i0 := by kernel_rfl
  t5 := Tryd.underlying5
  a5 := Tryd.isAgg5
  z5 := Tryd.sizeOf5
  v5 := Tryd.zeroValue5
  i5 := by kernel_rfl
  t22 := Tryd.underlying22
  a22 := Tryd.isAgg22
  z22 := Tryd.sizeOf22
  v22 := Tryd.zeroValue22
  i22 := by kernel_rfl
  t23 := Tryd.underlying133
  a23 := Tryd.isAgg133
  z23 := Tryd.sizeOf133
  v23 := Tryd.zeroValue133
  i23 := by kernel_rfl
  t25 := Tryd.underlying185
  a25 := Tryd.isAgg185
  z25 := Tryd.sizeOf185
  v25 := Tryd.zeroValue185
  i25 := by kernel_rfl
  t45 := Tryd.underlying146
  a45 := Tryd.isAgg146
  z45 := Tryd.sizeOf146
  v45 := Tryd.zeroValue146
  i45 := by kernel_rfl }
open Go.RowKit in
theorem Tryd.binary_LE_AppendUint16 (B n v : Nat) (hv : v < 65536) (sv : Value) (xs : List Value) (w : World) (hown : w.ownsRow B 5 1 sv n xs) (hBw : B ≤ w.heap.size) (hlim : n + 2 ≤ 140737488355328) :
    Calls Tryd.prog 268 #[.agg #[], sv, .int .u16 v] w fun e w' => ∃ v', e = .returned v' ∧ w'.ownsRow B 5 1 v' (n + 2) (xs ++ Lib.byteCells (Lib.leBytes 2 v)) ∧ Below B w w' := Any.binary_LE_AppendUint16 Tryd.laysBin29 B n v hv sv xs w hown hBw hlim
def Tryd.laysBin32_ren : Go.Shelf.Ren := ⟨fun | 32 => 269 | n => n, fun | 25 => 185 | 22 => 22 | 29 => 131 | 0 => 0 | 5 => 5 | 45 => 146 | n => n, fun | n => n⟩
theorem Tryd.laysBin32 : Go.Proofs.LaysBin.n32 Tryd.prog Tryd.laysBin32_ren := {
  mixed := by kernel_rfl
  f32 := Tryd.func269.trans (congrArg some (by kernel_rfl))
  t0 := Tryd.underlying0
  a0 := Tryd.isAgg0
  z0 := Tryd.sizeOf0
  v0 := Tryd.zeroValue0
  i0 := by kernel_rfl
  t5 := Tryd.underlying5
  a5 := Tryd.isAgg5
  z5 := Tryd.sizeOf5
  v5 := Tryd.zeroValue5
  i5 := by kernel_rfl
  t22 := Tryd.underlying22
  a22 := Tryd.isAgg22
  z22 := Tryd.sizeOf22
  v22 := Tryd.zeroValue22
  i22 := by kernel_rfl
  t25 := Tryd.underlying185
  a25 := Tryd.isAgg185
  z25 := Tryd.sizeOf185
  v25 := Tryd.zeroValue185
  i25 := by kernel_rfl
  t29 := Tryd.underlying131
  a29 := Tryd.isAgg131
  z29 := Tryd.sizeOf131
  v29 := Tryd.zeroValue131
  i29 := by kernel_rfl
  t45 := Tryd.underlying146
  a45 := Tryd.isAgg146
  z45 := Tryd.sizeOf146
  v45 := Tryd.zeroValue146
  i45 := by kernel_rfl }
open Go.RowKit in
theorem Tryd.binary_LE_AppendUint32 (B n v : Nat) (hv : v < 4294967296) (sv : Value) (xs : List Value) (w : World) (hown : w.ownsRow B 5 1 sv n xs) (hBw : B ≤ w.heap.size) (hlim : n + 4 ≤ 140737488355328) :
    Calls Tryd.prog 269 #[.agg #[], sv, .int .u32 v] w fun e w' => ∃ v', e = .returned v' ∧ w'.ownsRow B 5 1 v' (n + 4) (xs ++ Lib.byteCells (Lib.leBytes 4 v)) ∧ Below B w w' := Any.binary_LE_AppendUint32 Tryd.laysBin32 B n v hv sv xs w hown hBw hlim
def Tryd.laysBin38_ren : Go.Shelf.Ren := ⟨fun | 38 => 263 | n => n, fun | 37 => 184 | 22 => 22 | 23 => 133 | 0 => 0 | 45 => 146 | 5 => 5 | n => n, fun | n => n⟩
theorem Tryd.laysBin38 : Go.Proofs.LaysBin.n38 Tryd.prog Tryd.laysBin38_ren := {
  mixed := by kernel_rfl
  f38 := Tryd.func263.trans (congrArg some (by kernel_rfl))
  t0 := Tryd.underlying0
  a0 := Tryd.isAgg0
  z0 := Tryd.sizeOf0
  v0 := Tryd.zeroValue0
  i0 := by kernel_rfl
  t5 := Tryd.underlying5
  a5 := Tryd.isAgg5
  z5 := Tryd.sizeOf5
  v5 := Tryd.zeroValue5
  i5 := by kernel_rfl
  t22 := Tryd.underlying22
  a22 := Tryd.isAgg22
  z22 := Tryd.sizeOf22
  v22 := Tryd.zeroValue22
  i22 := by kernel_rfl
  t23 := Tryd.underlying133
  a23 := Tryd.isAgg133
  z23 := Tryd.sizeOf133
  v23 := Tryd.zeroValue133
  i23 := by kernel_rfl
  t37 := Tryd.underlying184
  a37 := Tryd.isAgg184
  z37 := Tryd.sizeOf184
  v37 := Tryd.zeroValue184
  i37 := by kernel_rfl
  t45 := Tryd.underlying146
  a45 := Tryd.isAgg146
  z45 := Tryd.sizeOf146
  v45 := Tryd.zeroValue146
  i45 := by kernel_rfl }
open Go.RowKit in
theorem Tryd.binary_BE_AppendUint16 (B n v : Nat) (hv : v < 65536) (sv : Value) (xs : List Value) (w : World) (hown : w.ownsRow B 5 1 sv n xs) (hBw : B ≤ w.heap.size) (hlim : n + 2 ≤ 140737488355328) :
    Calls Tryd.prog 263 #[.agg #[], sv, .int .u16 v] w fun e w' => ∃ v', e = .returned v' ∧ w'.ownsRow B 5 1 v' (n + 2) (xs ++ Lib.byteCells (Lib.beBytes 2 v)) ∧ Below B w w' := Any.binary_BE_AppendUint16 Tryd.laysBin38 B n v hv sv xs w hown hBw hlim
def Tryd.laysBin41_ren : Go.Shelf.Ren := ⟨fun | 41 => 264 | n => n, fun | 37 => 184 | 22 => 22 | 29 => 131 | 0 => 0 | 45 => 146 | 5 => 5 | n => n, fun | n => n⟩
theorem Tryd.laysBin41 : Go.Proofs.LaysBin.n41 Tryd.prog Tryd.laysBin41_ren := {
  mixed := by kernel_rfl
  f41 := Tryd.func264.trans (congrArg some (by kernel_rfl))
  t0 := Tryd.underlying0
  a0 := Tryd.isAgg0
  z0 := Tryd.sizeOf0
  v0 := Tryd.zeroValue0
  i0 := by kernel_rfl
  t5 := Tryd.underlying5
  a5 := Tryd.isAgg5
  z5 := Tryd.sizeOf5
  v5 := Tryd.zeroValue5
  i5 := by kernel_rfl
  t22 := Tryd.underlying22
  a22 := Tryd.isAgg22
  z22 := Tryd.sizeOf22
  v22 := Tryd.zeroValue22
  i22 := by kernel_rfl
  t29 := Tryd.underlying131
  a29 := Tryd.isAgg131
  z29 := Tryd.sizeOf131
  v29 := Tryd.zeroValue131
  i29 := by kernel_rfl
  t37 := Tryd.underlying184
  a37 := Tryd.isAgg184
  z37 := Tryd.sizeOf184
  v37 := Tryd.zeroValue184
  i37 := by kernel_rfl
  t45 := Tryd.underlying146
  a45 := Tryd.isAgg146
  z45 := Tryd.sizeOf146
  v45 := Tryd.zeroValue146
  i45 := by kernel_rfl }
open Go.RowKit in
theorem Tryd.binary_BE_AppendUint32 (B n v : Nat) (hv : v < 4294967296) (sv : Value) (xs : List Value) (w : World) (hown : w.ownsRow B 5 1 sv n xs) (hBw : B ≤ w.heap.size) (hlim : n + 4 ≤ 140737488355328) :
    Calls Tryd.prog 264 #[.agg #[], sv, .int .u32 v] w fun e w' => ∃ v', e = .returned v' ∧ w'.ownsRow B 5 1 v' (n + 4) (xs ++ Lib.byteCells (Lib.beBytes 4 v)) ∧ Below B w w' := Any.binary_BE_AppendUint32 Tryd.laysBin41 B n v hv sv xs w hown hBw hlim
end Go.Proofs
