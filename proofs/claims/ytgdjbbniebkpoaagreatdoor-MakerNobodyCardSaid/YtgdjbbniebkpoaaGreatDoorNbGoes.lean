/-
  MakerNobody starts no goroutine: no function of the program does. No conditions.
-/
import Derived.Test.YtgdjbbniebkpoaaGreatDoorRows
import GoSem.ClaimGoes
import Derived.KernelRfl
namespace Go.Proofs.YtgdjbbniebkpoaaGreatDoor.nobody
open Go
theorem noGo : Tryz.prog.funcs.toList.any Func.goes = false := by kernel_rfl
theorem goes_none {P : Program} (h : P.funcs.toList.any Func.goes = false) (f : FuncId) : P.goes f = false := by
  have h1 : ∀ g : FuncId, (P.funcs[g]?).any Func.goes = false := fun g => by
    cases hg : P.funcs[g]? with
    | none => rfl
    | some fn =>
      have hm : fn ∈ P.funcs.toList := by
        have := Array.mem_of_getElem? hg
        exact Array.mem_toList_iff.2 this
      have := List.any_eq_false.1 h fn hm
      simpa using this
  unfold Program.goes
  rw [show ((P.closure f).any fun g => (P.funcs[g]?).any Func.goes) = false from List.any_eq_false.2 fun g _ => by rw [h1 g]; decide, ← Array.any_toList, h]
  simp
theorem goesBy_none {P : Program} {c : OpenClaim} (hs : c.start = .entering) (h : P.funcs.toList.any Func.goes = false) : c.goesBy P = false := by
  unfold OpenClaim.goesBy Program.goesAt Program.goesFrom
  rw [hs, Bool.or_false]
  cases P.funcNamed c.func with
  | none => rfl
  | some f => exact goes_none h f
theorem goesT : false = Rows.makerNobodyRow.goesBy Tryz.pinned.checked.prog := (goesBy_none (P := Tryz.prog) rfl noGo).symm
end Go.Proofs.YtgdjbbniebkpoaaGreatDoor.nobody
