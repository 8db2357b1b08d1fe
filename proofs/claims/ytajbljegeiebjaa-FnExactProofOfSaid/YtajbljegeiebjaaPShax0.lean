-- Written by a program of this session (it turns the kit's print tool to leaves that were proved by hand). Lean checks it.
import Derived.Test.YtajbljegeiebjaaProg
import Derived.Below
import Derived.Deep.Draws
import Derived.Deep.AppendLies
import Derived.Maps.AppendAt
import Derived.OwnWalk
import Derived.Laws.BytesArg
import Derived.Laws.MakeOwn
import Derived.Laws.OwnMore
import Derived.Deep.OwnRows
import Derived.Tactics
import Derived.Lib.ConvBytes
import Derived.Laws.Slices
import Derived.WalkKit
import Derived.KernelRfl
import Derived.RowKit3
import Derived.Deep.LoopGhost
import Derived.Deep.QuietTactic
import Derived.BigQuiet
import Derived.WideLaws
import Derived.Deep.DeepCutAuto
import Derived.Deep.CutBlock
import Derived.Deep.RegionHeld3
import Derived.Laws.Rows
import Derived.Lib.AppendStr
import Derived.ArgAppend
import Derived.Laws.IdiomCopy
import Derived.OrdersHeld
import Derived.Laws.BitsLemmas
import Derived.RowKit
import Derived.Test.YtajbljegeiebjaaBase
import Derived.Test.YtajbljegeiebjaaWWords
import Derived.Test.YtajbljegeiebjaaWLast
import Derived.Test.YtajbljegeiebjaaWTab
import Derived.Test.YtajbljegeiebjaaWFour
import Derived.Test.YtajbljegeiebjaaWQPut
import Derived.Test.YtajbljegeiebjaaWApart
import Derived.Test.YtajbljegeiebjaaWArr
import Derived.Test.YtajbljegeiebjaaWZeros
import Derived.Test.YtajbljegeiebjaaWFoot
import Derived.Test.YtajbljegeiebjaaWKept
import Derived.Test.YtajbljegeiebjaaWShare
import Derived.Test.YtajbljegeiebjaaWN
import Derived.Test.YtajbljegeiebjaaWFootNe
import Derived.Test.YtajbljegeiebjaaWAt
import Derived.Test.YtajbljegeiebjaaWEqStruct
import Derived.Test.YtajbljegeiebjaaWRepsOne
import Derived.Test.YtajbljegeiebjaaWInv
import Derived.Test.YtajbljegeiebjaaWInvWords
import Derived.Test.YtajbljegeiebjaaWGuard
import Derived.Test.YtajbljegeiebjaaWNEv
import Derived.Test.YtajbljegeiebjaaWMore
namespace Go.Proofs.Ytajbljegeiebjaa.PSha
open Go.RowKit Go.Proofs.Ytajbljegeiebjaa.Leaf Go.Proofs.YtajbljegeiebjaaW.PrintWords Go.Proofs.YtajbljegeiebjaaW.PrintLast Go.Proofs.YtajbljegeiebjaaW.PrintMore
attribute [local go_sem] max2_int min2_int max_two min_two max_three min_three max_four min_four   -- for this text's walks alone
set_option linter.unusedVariables false
set_option linter.unusedSimpArgs false



def errW : Option Int → Value
  | none => .nilIface
  | some c => .iface 0 (.int .i64 c)
theorem errW_none : errW none = .nilIface := rfl
theorem errW_some (c : Int) : errW (some c) = .iface 0 (.int .i64 c) := rfl

-- the values' own types

end Go.Proofs.Ytajbljegeiebjaa.PSha
