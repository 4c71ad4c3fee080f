-- WRITTEN BY hprint.py, this session's own program, over the kit's printer: not typed by hand; Lean checks it
import Derived.Test.YtjkhalcdigneoaaDoorProg
import Derived.Test.YtjkhalcdigneoaaDoorOp1
import Derived.Below
import Derived.Deep.Draws
import Derived.Deep.AppendLies
import Derived.Maps.AppendAt
import Derived.OwnWalk
import Derived.Laws.BytesArg
import Derived.Laws.MakeOwn
import Derived.Laws.OwnMore
import Derived.Deep.OwnRows
import Derived.Tactics
import Derived.Lib.ConvBytes
import Derived.Laws.Slices
import Derived.WalkKit
import Derived.KernelRfl
import Derived.RowKit3
import Derived.Deep.LoopGhost
import Derived.Deep.QuietTactic
import Derived.BigQuiet
import Derived.WideLaws
import Derived.Deep.DeepCutAuto
import Derived.Deep.CutBlock
import Derived.Deep.RegionHeld3
import Derived.Laws.Rows
import Derived.Lib.AppendStr
import Derived.ArgAppend
import Derived.Laws.IdiomCopy
import Derived.OrdersHeld
import Derived.Laws.BitsLemmas
import Derived.RowKit
import Derived.Lib.FrozenHead2
import Derived.Lib.OthersKept
import Derived.Lib.ReplaceLaws
import Derived.Test.YtjkhalcdigneoaaDoorShelf
import Derived.Test.YtjkhalcdigneoaaDoorWWords
import Derived.Test.YtjkhalcdigneoaaDoorWLast
import Derived.Test.YtjkhalcdigneoaaDoorWTab
import Derived.Test.YtjkhalcdigneoaaDoorWFour
import Derived.Test.YtjkhalcdigneoaaDoorWQPut
import Derived.Test.YtjkhalcdigneoaaDoorWApart
import Derived.Test.YtjkhalcdigneoaaDoorWArr
import Derived.Test.YtjkhalcdigneoaaDoorWZeros
import Derived.Test.YtjkhalcdigneoaaDoorWFoot
import Derived.Test.YtjkhalcdigneoaaDoorWKept
import Derived.Test.YtjkhalcdigneoaaDoorWShare
import Derived.Test.YtjkhalcdigneoaaDoorWN
import Derived.Test.YtjkhalcdigneoaaDoorWFootNe
import Derived.Test.YtjkhalcdigneoaaDoorWAt
import Derived.Test.YtjkhalcdigneoaaDoorWEqStruct
import Derived.Test.YtjkhalcdigneoaaDoorWRepsOne
import Derived.Test.YtjkhalcdigneoaaDoorWInv
import Derived.Test.YtjkhalcdigneoaaDoorWInvWords
import Derived.Test.YtjkhalcdigneoaaDoorWGuard
import Derived.Test.YtjkhalcdigneoaaDoorWNEv
import Derived.Test.YtjkhalcdigneoaaDoorWMore
namespace Go.Proofs.YtjkhalcdigneoaaDoor.P
open Go.RowKit Go.Proofs.YtjkhalcdigneoaaDoorW.PrintWords Go.Proofs.YtjkhalcdigneoaaDoorW.PrintLast Go.Proofs.YtjkhalcdigneoaaDoorW.PrintMore
attribute [local go_sem] max2_int min2_int max_two min_two max_three min_three max_four min_four   -- for this text's walks alone
set_option linter.unusedVariables false
set_option linter.unusedSimpArgs false



def errW : Option Int → Value
  | none => .nilIface
  | some c => .iface 0 (.int .i64 c)
theorem errW_none : errW none = .nilIface := rfl
theorem errW_some (c : Int) : errW (some c) = .iface 0 (.int .i64 c) := rfl

theorem info5 : (Tryd.prog.info? 5).map (fun i => (i.zero, i.size, i.bytes)) = some (some (.int .u8 0), 1, 1) := by kernel_rfl
theorem info9 : (Tryd.prog.info? 9).map (fun i => (i.zero, i.size, i.bytes)) = some (some (.string ⟨#[]⟩), 1, 16) := by kernel_rfl
-- the values' own types


end Go.Proofs.YtjkhalcdigneoaaDoor.P
