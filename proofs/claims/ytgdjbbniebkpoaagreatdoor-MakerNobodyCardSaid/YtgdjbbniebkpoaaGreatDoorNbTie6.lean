/-
  Closed facts of the tie of MakerNobody's row: one declaration a fact. No conditions.
-/
import Derived.Test.YtgdjbbniebkpoaaGreatDoorNbTie0
import Derived.LaidByTextLater
import Derived.LaidOnce
import Derived.SevenTiedAt
import Derived.Deep.DeepLaidRun
namespace Go.Proofs.YtgdjbbniebkpoaaGreatDoor.nobody
open Go
theorem t10 : ∀ os tape, (DataW.laidRun Tryz.prog (varsWorld Tryz.prog 400 (varsId Tryz.prog) os tape).memory 8 (tl.map (·.1))).map (fun x => laidRowsB Tryz.prog (varsWorld Tryz.prog 400 (varsId Tryz.prog) os tape).memory x.2) = some true := fun _ _ => by kernel_rfl
end Go.Proofs.YtgdjbbniebkpoaaGreatDoor.nobody
