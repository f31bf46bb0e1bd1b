/-
  Closed facts of the tie of MakerNobody's row: one declaration a fact. No conditions.
-/
import Derived.Test.YtgdjbbniebkpoaaGreatDoorNbTie0
import Derived.LaidByTextLater
import Derived.LaidOnce
import Derived.SevenTiedAt
import Derived.Deep.DeepLaidRun
namespace Go.Proofs.YtgdjbbniebkpoaaGreatDoor.nobody
open Go
theorem t1 : Tryz.prog.worded (varsWordLater true) = true := by kernel_rfl
theorem t2 : Tryz.prog.worded (varsWordLater !true) = false := by kernel_rfl
theorem t3 : Tryz.prog.worded rootWordLater = true := by kernel_rfl
end Go.Proofs.YtgdjbbniebkpoaaGreatDoor.nobody
