/- Contracts of the kit's shelf, laid at this seat by its own program, in plain words. -/
import Derived.Shelf.SlGeneric
import Derived.Ground.SlgnProg
import Derived.Shelf.SlicesE.Reverse
import Derived.Test.YtpldfbkknkhlaaaDoorProg
namespace Go.Proofs
open Go.Shelf
def Tryd.revB_ren : Go.Shelf.Ren := ⟨fun | 35 => 31 | n => n, fun | 22 => 38 | 23 => 5 | 3 => 3 | 4 => 4 | 0 => 0 | n => n, fun | n => n⟩
theorem Tryd.revB : Go.Proofs.SlLaysE.n35 Tryd.prog Tryd.revB_ren := {
  mixed := by kernel_rfl
  f35 := ⟨Tryd.f31.name, by decide, Tryd.func31.trans (congrArg some (by kernel_rfl))⟩
  t0 := Tryd.underlying0
  a0 := Tryd.isAgg0
  z0 := Tryd.sizeOf0
  v0 := Tryd.zeroValue0
  t3 := Tryd.underlying3
  a3 := Tryd.isAgg3
  z3 := Tryd.sizeOf3
  v3 := Tryd.zeroValue3
  t4 := Tryd.underlying4
  a4 := Tryd.isAgg4
  z4 := Tryd.sizeOf4
  v4 := Tryd.zeroValue4
  t22 := Tryd.underlying38
  a22 := Tryd.isAgg38
  z22 := Tryd.sizeOf38
  v22 := Tryd.zeroValue38
  a23 := Tryd.isAgg5
  z23 := Tryd.sizeOf5 }
end Go.Proofs
