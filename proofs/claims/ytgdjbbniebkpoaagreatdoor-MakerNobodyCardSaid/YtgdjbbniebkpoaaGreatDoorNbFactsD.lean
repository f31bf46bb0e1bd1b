/-
  Closed facts of MakerNobody's row: one declaration a fact. No conditions.
-/
import Derived.Test.YtgdjbbniebkpoaaGreatDoorRows
import Derived.JoinedOf
import Derived.Test.YtgdjbbniebkpoaaGreatDoorEv5
import Derived.KernelRfl
namespace Go.Proofs.YtgdjbbniebkpoaaGreatDoor.nobody
open Go
open Go.Ev
theorem x10 : (Rows.makerNobodyRow.inPlace == inPlaceL Tryz.prog (reach Tryz.prog 3)) = true := by kernel_rfl
theorem k10 : (Rows.makerNobodyRow.inPlace == Tryz.prog.inPlace 3) = true := by rw [inPlace_eq]; exact x10
end Go.Proofs.YtgdjbbniebkpoaaGreatDoor.nobody
