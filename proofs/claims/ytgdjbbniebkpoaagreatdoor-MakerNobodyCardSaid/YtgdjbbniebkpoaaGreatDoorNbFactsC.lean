/-
  Closed facts of MakerNobody's row: one declaration a fact. No conditions.
-/
import Derived.Test.YtgdjbbniebkpoaaGreatDoorRows
import Derived.JoinedOf
import Derived.KernelRfl
namespace Go.Proofs.YtgdjbbniebkpoaaGreatDoor.nobody
open Go
theorem k23 : (Rows.makerNobodyRow.shortTexts.isNone) = true := by kernel_rfl
theorem k23b : (Tryz.prog.stopsHeard) = true := by kernel_rfl
theorem k24 : (Tryz.prog.mayEnter) = true := by kernel_rfl
theorem k24b : (Rows.makerNobodyRow.lifted == Tryz.prog.liftsFinal) = true := by kernel_rfl
theorem k24c : (Tryz.prog.make == some Rows.makerNobodyRow.make) = true := by kernel_rfl
theorem k25 : (Rows.makerNobodyRow.kinds == (if Rows.makerNobodyRow.domain.isEmpty then [] else Tryz.f3.params.toList.map fun t => match Tryz.prog.underlying t with | some (.int k) => some k | _ => none)) = true := by kernel_rfl
theorem k26 : (Rows.makerNobodyRow.pinned == Rows.makerNobodyRow.pinnedBy) = true := by kernel_rfl
theorem k27 : (Rows.makerNobodyRow.veiled == (Tryz.f3.params.toList ++ Rows.makerNobodySpec.plain.varTypes Tryz.prog ++ Tryz.f3.resultTypes.toList).any (Tryz.prog.veiledRec ·)) = true := by kernel_rfl
theorem k28 : (Rows.makerNobodyRow.veiledFits Tryz.prog Tryz.f3.params.toList (Tryz.f3.params.toList ++ Rows.makerNobodySpec.plain.varTypes Tryz.prog ++ Tryz.f3.resultTypes.toList)) = true := by kernel_rfl
end Go.Proofs.YtgdjbbniebkpoaaGreatDoor.nobody
