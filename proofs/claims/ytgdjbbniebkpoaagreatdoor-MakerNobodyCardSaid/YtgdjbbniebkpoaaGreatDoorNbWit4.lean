/-
  A world in which the call of MakerNobody can begin: what the door lays, and the pinned table. No conditions.
-/
import Derived.Test.YtgdjbbniebkpoaaGreatDoorNbWit0
import Derived.KernelRfl
import Derived.LaidMore
import Derived.LaidHandle
import Derived.LaidByTextLater
import Derived.LaidOnce
import Derived.LaidLaws
import Derived.Deep.DeepLaidRun
namespace Go.Proofs.YtgdjbbniebkpoaaGreatDoor.nobody
open Go
theorem w4 (os : Os) : (Rows.makerNobodyRow.laid.filter fun x => x.2.handleName?.isSome && x.2.funcsIn?.isNone).all (handleAtB Tryz.prog ((w0 os).forCall (fun _ _ => 0) ⟨#[], #[.string ByteArray.empty], []⟩).memory) = true := by kernel_rfl
theorem w5 (os : Os) : funcsRun Tryz.prog ((w0 os).forCall (fun _ _ => 0) ⟨#[], #[.string ByteArray.empty], []⟩).memory 8 ((funcsListed Rows.makerNobodyRow.laid).map (·.1)) = some ((funcsListed Rows.makerNobodyRow.laid).map (·.2.funcsOut)) := by kernel_rfl
end Go.Proofs.YtgdjbbniebkpoaaGreatDoor.nobody
