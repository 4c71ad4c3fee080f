-- WRITTEN BY hprint.py, this session's own program, over the kit's printer: not typed by hand; Lean checks it
import Derived.Test.YtgljgbkbjlondaaDoorProg
import Derived.Test.YtgljgbkbjlondaaDoorOp1
import Derived.Below
import Derived.Deep.Draws
import Derived.Deep.AppendLies
import Derived.Maps.AppendAt
import Derived.OwnWalk
import Derived.Laws.BytesArg
import Derived.Laws.MakeOwn
import Derived.Laws.OwnMore
import Derived.Deep.OwnRows
import Derived.Tactics
import Derived.Lib.ConvBytes
import Derived.Laws.Slices
import Derived.WalkKit
import Derived.KernelRfl
import Derived.RowKit3
import Derived.Deep.LoopGhost
import Derived.Deep.QuietTactic
import Derived.BigQuiet
import Derived.WideLaws
import Derived.Deep.DeepCutAuto
import Derived.Deep.CutBlock
import Derived.Deep.RegionHeld3
import Derived.Laws.Rows
import Derived.Lib.AppendStr
import Derived.ArgAppend
import Derived.Laws.IdiomCopy
import Derived.OrdersHeld
import Derived.Laws.BitsLemmas
import Derived.RowKit
import Derived.Lib.FrozenHead2
import Derived.Lib.OthersKept
import Derived.Lib.ReplaceLaws
import Derived.Lib.AppendIntMem
import Derived.Lib.QuietBelow
import Derived.Test.YtgljgbkbjlondaaDoorShelf
import Derived.Test.YtgljgbkbjlondaaDoorWWords
import Derived.Test.YtgljgbkbjlondaaDoorWLast
import Derived.Test.YtgljgbkbjlondaaDoorWTab
import Derived.Test.YtgljgbkbjlondaaDoorWFour
import Derived.Test.YtgljgbkbjlondaaDoorWQPut
import Derived.Test.YtgljgbkbjlondaaDoorWApart
import Derived.Test.YtgljgbkbjlondaaDoorWArr
import Derived.Test.YtgljgbkbjlondaaDoorWZeros
import Derived.Test.YtgljgbkbjlondaaDoorWFoot
import Derived.Test.YtgljgbkbjlondaaDoorWKept
import Derived.Test.YtgljgbkbjlondaaDoorWShare
import Derived.Test.YtgljgbkbjlondaaDoorWN
import Derived.Test.YtgljgbkbjlondaaDoorWFootNe
import Derived.Test.YtgljgbkbjlondaaDoorWAt
import Derived.Test.YtgljgbkbjlondaaDoorWEqStruct
import Derived.Test.YtgljgbkbjlondaaDoorWRepsOne
import Derived.Test.YtgljgbkbjlondaaDoorWInv
import Derived.Test.YtgljgbkbjlondaaDoorWInvWords
import Derived.Test.YtgljgbkbjlondaaDoorWGuard
import Derived.Test.YtgljgbkbjlondaaDoorWNEv
import Derived.Test.YtgljgbkbjlondaaDoorWMore
namespace Go.Proofs.YtgljgbkbjlondaaDoor.P
open Go.RowKit Go.Proofs.YtgljgbkbjlondaaDoorW.PrintWords Go.Proofs.YtgljgbkbjlondaaDoorW.PrintLast Go.Proofs.YtgljgbkbjlondaaDoorW.PrintMore
attribute [local go_sem] max2_int min2_int max_two min_two max_three min_three max_four min_four   -- for this text's walks alone
set_option linter.unusedVariables false
set_option linter.unusedSimpArgs false



def errW : Option Int → Value
  | none => .nilIface
  | some c => .iface 0 (.int .i64 c)
theorem errW_none : errW none = .nilIface := rfl
theorem errW_some (c : Int) : errW (some c) = .iface 0 (.int .i64 c) := rfl

theorem info5 : (Tryd.prog.info? 5).map (fun i => (i.zero, i.size, i.bytes)) = some (some (.int .u8 0), 1, 1) := by kernel_rfl
theorem info9 : (Tryd.prog.info? 9).map (fun i => (i.zero, i.size, i.bytes)) = some (some (.string ⟨#[]⟩), 1, 16) := by kernel_rfl
-- the values' own types


end Go.Proofs.YtgljgbkbjlondaaDoor.P
