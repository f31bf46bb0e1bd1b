/-
  The law MakerNobody returns true at every string: the call is evaluated by the kernel, its argument left open.
  Conditions: those of the row alone (the listed variables hold what the program's text lays; the card ties them).
-/
import Derived.Test.YtgdjbbniebkpoaaGreatDoorCards
import Derived.Test.YtgdjbbniebkpoaaGreatDoorNbLift
import Derived.Test.YtgdjbbniebkpoaaGreatDoorNbFacts
import Derived.Test.YtgdjbbniebkpoaaGreatDoorNbTie
import Derived.Test.YtgdjbbniebkpoaaGreatDoorNbGoes
namespace Go.Proofs.YtgdjbbniebkpoaaGreatDoor.nobody
open Go
theorem named : Tryz.prog.funcNamed "gamp/gamplaw10.MakerNobody" = some 3 := by kernel_rfl
theorem inst : Tryz.f3.isInstance Tryz.pinned.checked.prog Rows.makerNobodyRow.origin Rows.makerNobodyRow.targs := of_decide_eq_true (by kernel_rfl)
theorem wrap : Tryz.f3.isWrapper Tryz.pinned.checked.prog Rows.makerNobodyRow.wrapper Rows.makerNobodyRow.mainSum := by
  unfold Func.isWrapper; first | (rw [if_pos (by decide +kernel)]; kernel_rfl) | (rw [if_neg (by decide +kernel)]; exact ⟨rfl, rfl⟩)
theorem said : Rows.MakerNobodySaid :=
  OpenClaim.holds_of_wide 3 Tryz.f3 rfl rfl rfl rfl rfl rfl rfl ⟨rfl, rfl, rfl, rfl, rfl⟩ rfl rfl rfl rfl rfl named Tryz.func3 facts inst wrap (fun os started H enc _ => lifted os started H enc)
/-- No parameter wants a stand-in. -/
theorem plain (f : FuncId) (fn : Func) (hf : Tryz.pinned.checked.prog.funcNamed "gamp/gamplaw10.MakerNobody" = some f) (hfn : Tryz.pinned.checked.prog.funcs[f]? = some fn) :
    true = Tryz.pinned.checked.prog.looks [] ∧ ∀ (j : Nat) t, fn.params[j]? = some t → Tryz.pinned.checked.prog.wantsStandIn t = false := by
  obtain rfl : f = 3 := Option.some.inj (named.symm.trans hf) |>.symm
  obtain rfl : fn = Tryz.f3 := (Option.some.inj (Tryz.func3.symm.trans hfn)).symm
  refine ⟨by kernel_rfl, fun j t ht => ?_⟩
  rw [Tryz.params3] at ht
  obtain rfl : t = 9 := by simpa using Array.mem_of_getElem? ht
  exact (show Tryz.prog.wantsStandIn 9 = false by kernel_rfl)
theorem wfT : Rows.makerNobodyRow.wfByText (OpenSpec.ofChange Rows.makerNobodySpec) = true := by kernel_rfl
theorem mainT : Tryz.pinned.checked.prog.mainIs = some (Rows.makerNobodyCard.stood.harness.1, Rows.makerNobodyCard.stood.harness.2.toList) := by kernel_rfl
theorem card : Rows.MakerNobodyCardSaid :=
  Claim7.holds_tied_plain_at .later [] _ _ _ _ said (fun _ h => by cases h) wfT (fun _ h => by cases h) rowTie rfl ⟨rfl, rfl⟩ mainT rfl plain goesT
end Go.Proofs.YtgdjbbniebkpoaaGreatDoor.nobody
namespace Go.Proofs.YtgdjbbniebkpoaaGreatDoor
/-- The card, under a short name, for the claim. -/
theorem makerNobody_holds : Rows.MakerNobodyCardSaid := nobody.card
#print axioms makerNobody_holds
end Go.Proofs.YtgdjbbniebkpoaaGreatDoor
