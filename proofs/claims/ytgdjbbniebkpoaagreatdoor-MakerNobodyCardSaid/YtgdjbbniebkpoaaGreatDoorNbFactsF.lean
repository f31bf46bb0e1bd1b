/-
  Closed facts of MakerNobody's row: one declaration a fact. No conditions.
-/
import Derived.Test.YtgdjbbniebkpoaaGreatDoorRows
import Derived.JoinedOf
import Derived.Test.YtgdjbbniebkpoaaGreatDoorEv5
import Derived.KernelRfl
namespace Go.Proofs.YtgdjbbniebkpoaaGreatDoor.nobody
open Go
open Go.Ev
theorem x13 : (Rows.makerNobodyRow.named == varsNamedL Tryz.prog (reach Tryz.prog 3)) = true := by kernel_rfl
theorem k13 : (Rows.makerNobodyRow.named == Tryz.prog.varsNamed 3) = true := by rw [varsNamed_eq]; exact x13
end Go.Proofs.YtgdjbbniebkpoaaGreatDoor.nobody
