/-
  A world in which the call of MakerNobody can begin, joined. No conditions.
-/
import Derived.Test.YtgdjbbniebkpoaaGreatDoorNbWit1
import Derived.Test.YtgdjbbniebkpoaaGreatDoorNbWit2
import Derived.Test.YtgdjbbniebkpoaaGreatDoorNbWit3
import Derived.Test.YtgdjbbniebkpoaaGreatDoorNbWit4
import Derived.Test.YtgdjbbniebkpoaaGreatDoorNbWit5
import Derived.Test.YtgdjbbniebkpoaaGreatDoorNbWit6
namespace Go.Proofs.YtgdjbbniebkpoaaGreatDoor.nobody
open Go
theorem laidMet_bits {P : Program} {w : World} {l : List (String × DataW Unit)} (fuel : Nat) (h : (DataW.laidRun P w fuel (l.map (·.1))).map (·.1) = some l)
    (hn : (DataW.laidRun P w fuel (l.map (·.1))).map (fun x => nodupBits 1024 x.2 0) = some true)
    (hr : (DataW.laidRun P w fuel (l.map (·.1))).map (fun x => laidRowsB P w x.2) = some true) : laidMet P l w := by
  cases hx : DataW.laidRun P w fuel (l.map (·.1)) with
  | none => simp [hx] at h
  | some x =>
    rw [hx] at h hn hr
    simp only [Option.map_some, Option.some.injEq] at h hn hr
    obtain ⟨x1, x2⟩ := x
    simp only at h hn hr
    subst h
    exact laidMet_of_run fuel hx (decide_eq_true (nodupBits_sound hn).1) hr
theorem door_met (os : Os) : laidMetH Tryz.prog Rows.makerNobodyRow.laid ((w0 os).forCall (fun _ _ => 0) ⟨#[], #[.string ByteArray.empty], []⟩).memory :=
  laidMetH_of_parts3 (fuel := 8) (laidMet_bits 8 (w1 os) (w2 os) (w3 os)) (w4 os) (w5 os)
end Go.Proofs.YtgdjbbniebkpoaaGreatDoor.nobody
