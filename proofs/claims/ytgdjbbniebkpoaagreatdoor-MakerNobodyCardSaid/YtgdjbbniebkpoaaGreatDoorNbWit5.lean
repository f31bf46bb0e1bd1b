/-
  A world in which the call of MakerNobody can begin: what the door lays, and the pinned table. No conditions.
-/
import Derived.Test.YtgdjbbniebkpoaaGreatDoorNbWit0
import Derived.KernelRfl
import Derived.LaidMore
import Derived.LaidHandle
import Derived.LaidByTextLater
import Derived.LaidOnce
import Derived.LaidLaws
import Derived.Deep.DeepLaidRun
namespace Go.Proofs.YtgdjbbniebkpoaaGreatDoor.nobody
open Go
theorem s1 (os : Os) : World.variablesRefB Tryz.prog ((w0 os).forCall (fun _ _ => 0) ⟨#[], #[.string ByteArray.empty], []⟩) = true := by kernel_rfl
theorem s2 (os : Os) : (((w0 os).forCall (fun _ _ => 0) ⟨#[], #[.string ByteArray.empty], []⟩).heap.toList.drop Tryz.prog.globals.size).take ((begin Tryz.prog (fun _ _ => 0) default).world.heap.size - Tryz.prog.globals.size) = (begin Tryz.prog (fun _ _ => 0) default).world.heap.toList.drop Tryz.prog.globals.size := by kernel_rfl
theorem shaped (os : Os) : ((w0 os).forCall (fun _ _ => 0) ⟨#[], #[.string ByteArray.empty], []⟩).Shaped Tryz.prog := World.shaped_of_RefB (s1 os) (s2 os)
end Go.Proofs.YtgdjbbniebkpoaaGreatDoor.nobody
