/-
  The closed facts of MakerNobody's row, joined. No conditions.
-/
import Derived.Test.YtgdjbbniebkpoaaGreatDoorNbFactsA
import Derived.Test.YtgdjbbniebkpoaaGreatDoorNbFactsB
import Derived.Test.YtgdjbbniebkpoaaGreatDoorNbFactsC
import Derived.Test.YtgdjbbniebkpoaaGreatDoorNbFactsD
import Derived.Test.YtgdjbbniebkpoaaGreatDoorNbFactsE
import Derived.Test.YtgdjbbniebkpoaaGreatDoorNbFactsF
namespace Go.Proofs.YtgdjbbniebkpoaaGreatDoor.nobody
open Go
set_option maxRecDepth 100000 in
theorem facts : joinedFacts Tryz.prog 3 Tryz.f3 Rows.makerNobodySpec Rows.makerNobodyRow = true := by
  unfold joinedFacts
  simp only [Bool.and_eq_true]
  exact ⟨⟨⟨⟨⟨⟨⟨⟨⟨⟨⟨⟨⟨⟨⟨⟨⟨⟨⟨⟨⟨⟨⟨⟨⟨⟨⟨⟨⟨⟨⟨k1, k2⟩, k3⟩, k4⟩, k5⟩, k6⟩, k7⟩, k8⟩, k9⟩, k10⟩, k11⟩, k12⟩, k13⟩, k14⟩, k15⟩, k16⟩, k17⟩, k17b⟩, k18⟩, k19⟩, k20⟩, k21⟩, k22⟩, k23⟩, k23b⟩, k24⟩, k24b⟩, k24c⟩, k25⟩, k26⟩, k27⟩, k28⟩
end Go.Proofs.YtgdjbbniebkpoaaGreatDoor.nobody
