/-
  A world in which the call of MakerNobody can begin: what the door lays, and the pinned table. No conditions.
-/
import Derived.Test.YtgdjbbniebkpoaaGreatDoorNbWit0
import Derived.KernelRfl
import Derived.LaidMore
import Derived.LaidHandle
import Derived.LaidByTextLater
import Derived.LaidOnce
import Derived.LaidLaws
import Derived.Deep.DeepLaidRun
namespace Go.Proofs.YtgdjbbniebkpoaaGreatDoor.nobody
open Go
theorem s3 (os : Os) : Input.okWideB Tryz.prog ((w0 os).forCall (fun _ _ => 0) ⟨#[], #[.string ByteArray.empty], []⟩) 3 ⟨#[], #[.string ByteArray.empty], []⟩ = true := by kernel_rfl
theorem s4 (os : Os) (H : Type) (enc : TypeId × Value → H) : Rows.makerNobodySpec.preB enc Tryz.prog Tryz.f3 [] false ((w0 os).forCall (fun _ _ => 0) ⟨#[], #[.string ByteArray.empty], []⟩).memory #[.string ByteArray.empty] 8 = true := by kernel_rfl
theorem s5 (os : Os) (H : Type) (enc : TypeId × Value → H) : Rows.makerNobodySpec.sizedB enc Tryz.prog Tryz.f3 false ((w0 os).forCall (fun _ _ => 0) ⟨#[], #[.string ByteArray.empty], []⟩).memory #[.string ByteArray.empty] 8 = true := by kernel_rfl
end Go.Proofs.YtgdjbbniebkpoaaGreatDoor.nobody
