-- WRITTEN BY hprint.py, this session's own program, over the kit's printer: not typed by hand; Lean checks it
import Derived.Test.YtjkhalcdigneoaaProg
import Derived.Below
import Derived.Deep.Draws
import Derived.Deep.AppendLies
import Derived.Maps.AppendAt
import Derived.OwnWalk
import Derived.Laws.BytesArg
import Derived.Laws.MakeOwn
import Derived.Laws.OwnMore
import Derived.Deep.OwnRows
import Derived.Tactics
import Derived.Lib.ConvBytes
import Derived.Laws.Slices
import Derived.WalkKit
import Derived.KernelRfl
import Derived.RowKit3
import Derived.Deep.LoopGhost
import Derived.Deep.QuietTactic
import Derived.BigQuiet
import Derived.WideLaws
import Derived.Deep.DeepCutAuto
import Derived.Deep.CutBlock
import Derived.Deep.RegionHeld3
import Derived.Laws.Rows
import Derived.Lib.AppendStr
import Derived.ArgAppend
import Derived.Laws.IdiomCopy
import Derived.OrdersHeld
import Derived.Laws.BitsLemmas
import Derived.RowKit
import Derived.Test.YtjkhalcdigneoaaWWords
import Derived.Test.YtjkhalcdigneoaaWLast
import Derived.Test.YtjkhalcdigneoaaWTab
import Derived.Test.YtjkhalcdigneoaaWFour
import Derived.Test.YtjkhalcdigneoaaWQPut
import Derived.Test.YtjkhalcdigneoaaWApart
import Derived.Test.YtjkhalcdigneoaaWArr
import Derived.Test.YtjkhalcdigneoaaWZeros
import Derived.Test.YtjkhalcdigneoaaWFoot
import Derived.Test.YtjkhalcdigneoaaWKept
import Derived.Test.YtjkhalcdigneoaaWShare
import Derived.Test.YtjkhalcdigneoaaWN
import Derived.Test.YtjkhalcdigneoaaWFootNe
import Derived.Test.YtjkhalcdigneoaaWAt
import Derived.Test.YtjkhalcdigneoaaWEqStruct
import Derived.Test.YtjkhalcdigneoaaWRepsOne
import Derived.Test.YtjkhalcdigneoaaWInv
import Derived.Test.YtjkhalcdigneoaaWInvWords
import Derived.Test.YtjkhalcdigneoaaWGuard
import Derived.Test.YtjkhalcdigneoaaWNEv
import Derived.Test.YtjkhalcdigneoaaWMore
namespace Go.Proofs.Ytjkhalcdigneoaa.P
open Go.RowKit Go.Proofs.YtjkhalcdigneoaaW.PrintWords Go.Proofs.YtjkhalcdigneoaaW.PrintLast Go.Proofs.YtjkhalcdigneoaaW.PrintMore
attribute [local go_sem] max2_int min2_int max_two min_two max_three min_three max_four min_four   -- for this text's walks alone
set_option linter.unusedVariables false
set_option linter.unusedSimpArgs false



def errW : Option Int → Value
  | none => .nilIface
  | some c => .iface 0 (.int .i64 c)
theorem errW_none : errW none = .nilIface := rfl
theorem errW_some (c : Int) : errW (some c) = .iface 0 (.int .i64 c) := rfl

-- the values' own types

end Go.Proofs.Ytjkhalcdigneoaa.P
