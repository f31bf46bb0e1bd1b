/-
  The call of MakerNobody, evaluated: it answers true, whatever string comes in. No conditions.
-/
import Derived.Test.YtgdjbbniebkpoaaGreatDoorRows
import Derived.Test.YtgdjbbniebkpoaaGreatDoorEv4
import Derived.Lib.Space
import Derived.KernelRfl
namespace Go.Proofs.YtgdjbbniebkpoaaGreatDoor.nobody
open Go
open Go.Ev
/-- the library's entries that the model holds -/
def ov (f : FuncId) : Option (List AV → AH → Option (AV × AH)) :=
  bif Nat.beq f 179 then some indexA else bif Nat.beq f 172 then some countA' else bif Nat.beq f 100 then some sameA else none
noncomputable def C : Ctx := ctx Tryz.prog ov
theorem cOk : C.Ok := by
  refine ctx_ok (fun f g h => ?_) (by kernel_rfl) (by kernel_rfl)
  simp only [ov, Tr.bif_eq] at h
  split at h
  · rename_i e
    obtain rfl := Nat.eq_of_beq_eq_true e
    cases h
    exact index_ov Tryz.func179 (by kernel_rfl) (by kernel_rfl) (by kernel_rfl) (by kernel_rfl)
  · split at h
    · rename_i e
      obtain rfl := Nat.eq_of_beq_eq_true e
      cases h
      exact count_ov Tryz.func172 (by kernel_rfl) (by kernel_rfl) (by kernel_rfl) (by kernel_rfl)
    · split at h
      · rename_i e
        obtain rfl := Nat.eq_of_beq_eq_true e
        cases h
        exact same_ov Tryz.func100 (by kernel_rfl) (by kernel_rfl) (by kernel_rfl) (by kernel_rfl)
      · cases h
def isTrue (x : Option (AV × AH)) : Bool := match x with | some (.bool true, _) => true | _ => false
theorem isTrue_some {x : Option (AV × AH)} (h : isTrue x = true) : ∃ H, x = some (.bool true, H) := by
  unfold isTrue at h
  split at h
  · exact ⟨_, rfl⟩
  · cases h
def space : Tr (List AV) := Tr.set (some (Lib.asciiSpaceTab.map fun z => AV.int .u8 z)) .leaf 1
theorem ran (s : List UInt8) : isTrue (callA C 2000 3 [.str s] (base space)) = true := by kernel_rfl
end Go.Proofs.YtgdjbbniebkpoaaGreatDoor.nobody
