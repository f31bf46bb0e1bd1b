/-
  A world in which the call of MakerNobody can begin: what the door lays, and the pinned table. No conditions.
-/
import Derived.Test.YtgdjbbniebkpoaaGreatDoorNbWit0
import Derived.KernelRfl
import Derived.LaidMore
import Derived.LaidHandle
import Derived.LaidByTextLater
import Derived.LaidOnce
import Derived.LaidLaws
import Derived.Deep.DeepLaidRun
namespace Go.Proofs.YtgdjbbniebkpoaaGreatDoor.nobody
open Go
theorem w2 (os : Os) : (DataW.laidRun Tryz.prog ((w0 os).forCall (fun _ _ => 0) ⟨#[], #[.string ByteArray.empty], []⟩).memory 8 ((Rows.makerNobodyRow.laid.filter fun x => x.2.handleName?.isNone).map (·.1))).map (fun x => nodupBits 1024 x.2 0) = some true := by kernel_rfl
end Go.Proofs.YtgdjbbniebkpoaaGreatDoor.nobody
