/-
  The call of MakerNobody returns true in every world that holds what the row lists. Conditions: those of the row.
-/
import Derived.Test.YtgdjbbniebkpoaaGreatDoorNbRun
import Derived.WalkKit
import Derived.Lib.LaidTab
import Derived.MakeChecks
import Derived.Stop.LaidErr
namespace Go.Proofs.YtgdjbbniebkpoaaGreatDoor.nobody
open Go Go.RowKit Go.Ev
theorem own : ownKnob Tryz.prog.godebug = none := by kernel_rfl
theorem gSpace : Tryz.prog.globalNamed "strings.asciiSpace" = some 1 := by kernel_rfl
theorem gSpaceType : (Tryz.prog.globals[1]?).map (·.type) = some 216 := by kernel_rfl
theorem cellsT : Tryz.prog.cellsOf 216 = 256 := by kernel_rfl
theorem cells5 : Tryz.prog.cellsOf 5 = 1 := by kernel_rfl
theorem plainH : (Rows.makerNobodyRow.laid.all fun x => x.2.handleName?.isNone) = true := by kernel_rfl
theorem gOk : C.ov 3 = none := by kernel_rfl
theorem listed : Rows.makerNobodyRow.laid = ("internal/strconv.uint64pow10", Rows.laid_internal_strconv_uint64pow10) :: ("math/bits.deBruijn32tab", Rows.laid_math_bits_deBruijn32tab) :: ("math/bits.deBruijn64tab", Rows.laid_math_bits_deBruijn64tab) :: ("unicode/utf8.first", Rows.laid_unicode_utf8_first) :: ("unicode/utf8.acceptRanges", Rows.laid_unicode_utf8_acceptRanges) :: ("strings.asciiSpace", Lib.tabData .u8 Lib.asciiSpaceTab) :: Rows.makerNobodyRow.laid.drop 6 := by kernel_rfl
theorem walk {W : World} (hL : laidMetH Tryz.prog Rows.makerNobodyRow.laid W) (s : ByteArray) : Calls Tryz.prog 3 #[.string s] W fun e w' => e = .returned (.bool true) ∧ Below W.heap.size W w' := by
  rw [MakeChecks.laidMetH_plain _ _ _ plainH] at hL
  rw [listed] at hL
  have h5 := hL.tail.tail.tail.tail.tail
  have hT : Lib.TabIs Tryz.prog W "strings.asciiSpace" .u8 Lib.asciiSpaceTab := Lib.tabIs_of_head gSpace gSpaceType Tryz.underlying216 Tryz.underlying5 cells5 cellsT h5
  have hB := base_tab hT gSpace (Nat.le_of_ble_eq_true (by kernel_rfl))
  obtain ⟨H', hr⟩ := isTrue_some (ran s.data.toList)
  refine (calls_of cOk gOk hr hB («as» := #[.string s]) (.cons (.str s) .nil)).mono fun e w' ⟨v', φ', he, hv, hb⟩ => ?_
  cases hv
  exact ⟨he, hb⟩
end Go.Proofs.YtgdjbbniebkpoaaGreatDoor.nobody
