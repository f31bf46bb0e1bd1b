/-
  A world in which the call of MakerNobody can begin: what the door lays, and the pinned table. No conditions.
-/
import Derived.Test.YtgdjbbniebkpoaaGreatDoorRows
import Derived.KernelRfl
import Derived.LaidMore
import Derived.LaidHandle
import Derived.LaidByTextLater
import Derived.LaidOnce
import Derived.LaidLaws
import Derived.Deep.DeepLaidRun
namespace Go.Proofs.YtgdjbbniebkpoaaGreatDoor.nobody
open Go
def tab : Array Value := (Pinned.utf8FirstZ.map fun n => Value.int .u8 (Int.ofNat n)).toArray
def lay (h : Array Obj) : Array Obj := match (h[4]? : Option Obj) with
  | some (Obj.cells _ t fr) => h.setIfInBounds 4 (Obj.cells tab t fr)
  | _ => h
noncomputable def w0 (os : Os) : World := { World.doorLaid Tryz.prog 400 os with heap := lay (World.doorLaid Tryz.prog 400 os).heap }
end Go.Proofs.YtgdjbbniebkpoaaGreatDoor.nobody
