/-
  DERIVED. GIVEN WITH THE SEED: THE CARDS: each row of YtgdjbbniebkpoaaGreatDoorRows.lean that lists a variable, with what it lists TIED to the program's text (the seventh form; the later family's looks); each row that meets fmt, with fmt's text TOLD by the authors' own Lean function (tested against real Go, not proved from fmt's source: count such statements apart). THE CARD IS WHAT COUNTS. Prove the row's statement (the work); the ties are given (YtgdjbbniebkpoaaGreatDoorTie.lean); close each card by the builder's one call (the guide's Derived/Test/ToyasCard.lean, 'card_holds'). Laid BY PROGRAM, IN A SANDBOX (cutbox-door.mjs). By AI agents, Wed Nov 11 2026. No macro, syntax, notation, axiom, sorry.
-/
import Derived.Test.YtgdjbbniebkpoaaGreatDoorRows
import GoSem.ClaimSeven
namespace Go.Proofs.YtgdjbbniebkpoaaGreatDoor
namespace Rows

/-- THE TIED CARD OF 'gamplaw10.MakerNobody'. -/
def makerNobodyCard : Claim7 := { stood := { row := makerNobodyRow, standIns := [], harness := (true, "cd007de552a1a31fd38e95c34e1941912bea833d054676403504569afb3557ec"), looks := true }, kinds := [], alts := [], laidByText := true, laidKinds := [.data, .data, .data, .pinned, .data, .data, .listed, .sentinel, .sentinel], laidTests := true, laidLooks := .later }
def MakerNobodyCardSaid : Prop := Claim7.holds Tryz.pinned (.plain (OpenSpec.ofChange makerNobodySpec)) makerNobodyCard

/-- THE SECOND FORM's CARD OF 'gamplaw10.MakerNobody'. -/
def makerNobodyUptoCard : Claim7 := { stood := { row := makerNobodyUptoRow, standIns := [], harness := (true, "cd007de552a1a31fd38e95c34e1941912bea833d054676403504569afb3557ec"), looks := true }, kinds := [], alts := [], laidByText := true, laidKinds := [.data, .data, .data, .pinned, .data, .data, .listed, .sentinel, .sentinel], laidTests := true, laidLooks := .later }
def MakerNobodyUptoCardSaid : Prop := Claim7.holds Tryz.pinned (.plain (OpenSpec.upto makerNobodySpec)) makerNobodyUptoCard
end Rows
end Go.Proofs.YtgdjbbniebkpoaaGreatDoor
