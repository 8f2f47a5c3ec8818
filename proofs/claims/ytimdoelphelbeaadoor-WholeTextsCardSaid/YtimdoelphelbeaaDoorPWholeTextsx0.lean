-- Written by wip/tools/print2.py (a program of this session's, over the kit's print) out of the translation. Not trusted: Lean checks it.
import Derived.Test.YtimdoelphelbeaaDoorProg
import Derived.Below
import Derived.Deep.Draws
import Derived.Deep.AppendLies
import Derived.Maps.AppendAt
import Derived.OwnWalk
import Derived.Laws.BytesArg
import Derived.Laws.MakeOwn
import Derived.Laws.OwnMore
import Derived.Deep.OwnRows
import Derived.Tactics
import Derived.Lib.ConvBytes
import Derived.Laws.Slices
import Derived.WalkKit
import Derived.KernelRfl
import Derived.RowKit3
import Derived.Deep.LoopGhost
import Derived.Deep.QuietTactic
import Derived.BigQuiet
import Derived.WideLaws
import Derived.Deep.DeepCutAuto
import Derived.Deep.CutBlock
import Derived.Deep.RegionHeld3
import Derived.Laws.Rows
import Derived.Lib.AppendStr
import Derived.ArgAppend
import Derived.Laws.IdiomCopy
import Derived.OrdersHeld
import Derived.Laws.BitsLemmas
import Derived.RowKit
import Derived.Test.YtimdoelphelbeaaDoorShelf
import Derived.Test.YtimdoelphelbeaaDoorNum
import Derived.Lib.SmallJoins
import Derived.Lib.IndexBytes
import Derived.Lib.AppendIntMem
import Derived.Test.YtimdoelphelbeaaDoorWWords
import Derived.Test.YtimdoelphelbeaaDoorWLast
import Derived.Test.YtimdoelphelbeaaDoorWTab
import Derived.Test.YtimdoelphelbeaaDoorWFour
import Derived.Test.YtimdoelphelbeaaDoorWQPut
import Derived.Test.YtimdoelphelbeaaDoorWApart
import Derived.Test.YtimdoelphelbeaaDoorWArr
import Derived.Test.YtimdoelphelbeaaDoorWZeros
import Derived.Test.YtimdoelphelbeaaDoorWFoot
import Derived.Test.YtimdoelphelbeaaDoorWKept
import Derived.Test.YtimdoelphelbeaaDoorWShare
import Derived.Test.YtimdoelphelbeaaDoorWN
import Derived.Test.YtimdoelphelbeaaDoorWFootNe
import Derived.Test.YtimdoelphelbeaaDoorWAt
import Derived.Test.YtimdoelphelbeaaDoorWEqStruct
import Derived.Test.YtimdoelphelbeaaDoorWRepsOne
import Derived.Test.YtimdoelphelbeaaDoorWInv
import Derived.Test.YtimdoelphelbeaaDoorWInvWords
import Derived.Test.YtimdoelphelbeaaDoorWGuard
import Derived.Test.YtimdoelphelbeaaDoorWNEv
import Derived.Test.YtimdoelphelbeaaDoorWMore
namespace Go.Proofs.YtimdoelphelbeaaDoor.PWholeTexts
open Go.RowKit Go.Proofs.YtimdoelphelbeaaDoorW.PrintWords Go.Proofs.YtimdoelphelbeaaDoorW.PrintLast Go.Proofs.YtimdoelphelbeaaDoorW.PrintMore
attribute [local go_sem] max2_int min2_int max_two min_two max_three min_three max_four min_four   -- for this text's walks alone
set_option linter.unusedVariables false
set_option linter.unusedSimpArgs false



def errW : Option Int → Value
  | none => .nilIface
  | some c => .iface 53 (.int .i64 c)
theorem errW_none : errW none = .nilIface := rfl
theorem errW_some (c : Int) : errW (some c) = .iface 53 (.int .i64 c) := rfl

-- the values' own types

/-- What the row's list gives: the error variable holds an error, the table its powers. -/
def LaidW (w : World) : Prop := (∃ tp p, w.var? Tryd.prog "strconv.ErrRange" = some #[.iface tp p]) ∧ Lib.TabIs Tryd.prog w "internal/strconv.uint64pow10" .u64 Lib.pow10Tab
theorem gRange : Tryd.prog.globalNamed "strconv.ErrRange" = some 1 := by kernel_rfl
theorem gPow : Tryd.prog.globalNamed "internal/strconv.uint64pow10" = some 2 := by kernel_rfl
theorem LaidW.below {w w1 : World} (h : LaidW w) (hb : Below w.heap.size w w1) : LaidW w1 := by
  obtain ⟨⟨tp, p, h1⟩, h2⟩ := h
  exact ⟨⟨tp, p, Joins.var_stays gRange h1 hb (Nat.le_refl _)⟩, Joins.tab_stays gPow h2 hb (Nat.le_refl _)⟩

theorem info5 : (Tryd.prog.info? 5).map (fun i => (i.zero, i.size, i.bytes)) = some (some (.int .u8 0), 1, 1) := by kernel_rfl
end Go.Proofs.YtimdoelphelbeaaDoor.PWholeTexts
