/- Contracts of the kit's shelf laid at this seat, as plain text (laytext.py). -/
import Derived.Shelf.SlicesE.Delete
import Derived.Shelf.SlSortCmp.Insertion
import Derived.Test.YtebjpafnfmmjeaaProg
namespace Go.Proofs
open Go.Shelf

def Try.delSS_ren : Go.Shelf.Ren := ⟨fun | 45 => 50 | n => n, fun | 22 => 22 | 23 => 40 | 3 => 3 | 4 => 4 | 0 => 0 | n => n, fun | n => n⟩
theorem Try.delSS : Go.Proofs.SlLaysE.n45 Try.prog Try.delSS_ren := {
  mixed := (by kernel_rfl),
  f45 := ⟨ "slices.Delete[[][]int,[]int]", by decide, Try.func50.trans (congrArg some (by kernel_rfl))⟩,
  t0 := Try.underlying0,
  a0 := Try.isAgg0,
  z0 := Try.sizeOf0,
  v0 := Try.zeroValue0,
  t3 := Try.underlying3,
  a3 := Try.isAgg3,
  z3 := Try.sizeOf3,
  v3 := Try.zeroValue3,
  t4 := Try.underlying4,
  a4 := Try.isAgg4,
  z4 := Try.sizeOf4,
  v4 := Try.zeroValue4,
  t22 := Try.underlying22,
  a22 := Try.isAgg22,
  z22 := Try.sizeOf22,
  v22 := Try.zeroValue22,
  a23 := Try.isAgg40,
  z23 := Try.sizeOf40 }

def Try.insSS_ren : Go.Shelf.Ren := ⟨fun | 20 => 62 | n => n, fun | 24 => 40 | 22 => 22 | 3 => 3 | 25 => 53 | 4 => 4 | 0 => 0 | n => n, fun | n => n⟩
theorem Try.insSS : Go.Proofs.SlLaysF.n20 Try.prog Try.insSS_ren := {
  mixed := (by kernel_rfl),
  f20 := ⟨ "slices.insertionSortCmpFunc[[]int]", by decide, Try.func62.trans (congrArg some (by kernel_rfl))⟩,
  t0 := Try.underlying0,
  a0 := Try.isAgg0,
  z0 := Try.sizeOf0,
  v0 := Try.zeroValue0,
  t3 := Try.underlying3,
  a3 := Try.isAgg3,
  z3 := Try.sizeOf3,
  v3 := Try.zeroValue3,
  t4 := Try.underlying4,
  a4 := Try.isAgg4,
  z4 := Try.sizeOf4,
  v4 := Try.zeroValue4,
  t22 := Try.underlying22,
  a22 := Try.isAgg22,
  z22 := Try.sizeOf22,
  v22 := Try.zeroValue22,
  a24 := Try.isAgg40,
  z24 := Try.sizeOf40,
  t25 := Try.underlying53,
  a25 := Try.isAgg53,
  z25 := Try.sizeOf53,
  v25 := Try.zeroValue53 }

end Go.Proofs
