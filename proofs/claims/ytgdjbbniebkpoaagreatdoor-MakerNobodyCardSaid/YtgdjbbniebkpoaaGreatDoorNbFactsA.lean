/-
  Closed facts of MakerNobody's row: one declaration a fact. No conditions.
-/
import Derived.Test.YtgdjbbniebkpoaaGreatDoorRows
import Derived.JoinedOf
import Derived.KernelRfl
namespace Go.Proofs.YtgdjbbniebkpoaaGreatDoor.nobody
open Go
theorem k1 : (Rows.makerNobodyRow.wf (OpenSpec.ofChange Rows.makerNobodySpec)) = true := by kernel_rfl
theorem k2 : (laidOutB Tryz.prog) = true := by kernel_rfl
theorem k3 : (mapsRowed Tryz.prog) = true := by kernel_rfl
theorem k4 : (Tryz.f3.params.all (Tryz.prog.readableRec ·)) = true := by kernel_rfl
theorem k5 : (namedTie Tryz.prog Rows.makerNobodyRow.named Rows.makerNobodySpec.vars) = true := by kernel_rfl
theorem k6 : (Rows.makerNobodyRow.stops == []) = true := by kernel_rfl
theorem k7 : (Tryz.prog.stops == []) = true := by kernel_rfl
theorem k8 : (Rows.makerNobodyRow.knobs == []) = true := by kernel_rfl
theorem k9 : (Tryz.prog.stopKnobs == []) = true := by kernel_rfl
end Go.Proofs.YtgdjbbniebkpoaaGreatDoor.nobody
