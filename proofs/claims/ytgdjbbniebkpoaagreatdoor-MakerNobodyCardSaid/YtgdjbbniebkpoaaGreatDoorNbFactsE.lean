/-
  Closed facts of MakerNobody's row: one declaration a fact. No conditions.
-/
import Derived.Test.YtgdjbbniebkpoaaGreatDoorRows
import Derived.JoinedOf
import Derived.Test.YtgdjbbniebkpoaaGreatDoorEv5
import Derived.KernelRfl
namespace Go.Proofs.YtgdjbbniebkpoaaGreatDoor.nobody
open Go
open Go.Ev
theorem x11 : unfollowedL Tryz.prog (reach Tryz.prog 3) = true := by kernel_rfl
theorem u11 : Tryz.prog.unfollowed 3 = true := by rw [unfollowed_eq]; exact x11
theorem k11 : (Rows.makerNobodyRow.unfollowed == Tryz.prog.unfollowed 3) = true := by rw [u11]; rfl
theorem k12 : (Rows.makerNobodyRow.recurses == Tryz.prog.recurses 3) = true := by rw [recurses_true u11]; rfl
end Go.Proofs.YtgdjbbniebkpoaaGreatDoor.nobody
