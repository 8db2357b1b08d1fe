-- Written by a program of this session (it turns the kit's print tool to leaves that were proved by hand). Lean checks it.
import Derived.Test.YtahebengjoffeaaProg
import Derived.Below
import Derived.Deep.Draws
import Derived.Deep.AppendLies
import Derived.Maps.AppendAt
import Derived.OwnWalk
import Derived.Laws.BytesArg
import Derived.Laws.MakeOwn
import Derived.Laws.OwnMore
import Derived.Deep.OwnRows
import Derived.Tactics
import Derived.Lib.ConvBytes
import Derived.Laws.Slices
import Derived.WalkKit
import Derived.KernelRfl
import Derived.RowKit3
import Derived.Deep.LoopGhost
import Derived.Deep.QuietTactic
import Derived.BigQuiet
import Derived.WideLaws
import Derived.Deep.DeepCutAuto
import Derived.Deep.CutBlock
import Derived.Deep.RegionHeld3
import Derived.Laws.Rows
import Derived.Lib.AppendStr
import Derived.ArgAppend
import Derived.Laws.IdiomCopy
import Derived.OrdersHeld
import Derived.Laws.BitsLemmas
import Derived.RowKit
import Derived.Test.YtahebengjoffeaaBase
import Derived.Test.YtahebengjoffeaaWWords
import Derived.Test.YtahebengjoffeaaWLast
import Derived.Test.YtahebengjoffeaaWTab
import Derived.Test.YtahebengjoffeaaWFour
import Derived.Test.YtahebengjoffeaaWQPut
import Derived.Test.YtahebengjoffeaaWApart
import Derived.Test.YtahebengjoffeaaWArr
import Derived.Test.YtahebengjoffeaaWZeros
import Derived.Test.YtahebengjoffeaaWFoot
import Derived.Test.YtahebengjoffeaaWKept
import Derived.Test.YtahebengjoffeaaWShare
import Derived.Test.YtahebengjoffeaaWN
import Derived.Test.YtahebengjoffeaaWFootNe
import Derived.Test.YtahebengjoffeaaWAt
import Derived.Test.YtahebengjoffeaaWEqStruct
import Derived.Test.YtahebengjoffeaaWRepsOne
import Derived.Test.YtahebengjoffeaaWInv
import Derived.Test.YtahebengjoffeaaWInvWords
import Derived.Test.YtahebengjoffeaaWGuard
import Derived.Test.YtahebengjoffeaaWNEv
import Derived.Test.YtahebengjoffeaaWMore
namespace Go.Proofs.Ytahebengjoffeaa.PFnExactNonceOf
open Go.RowKit Go.Proofs.Ytahebengjoffeaa.Leaf Go.Proofs.YtahebengjoffeaaW.PrintWords Go.Proofs.YtahebengjoffeaaW.PrintLast Go.Proofs.YtahebengjoffeaaW.PrintMore
attribute [local go_sem] max2_int min2_int max_two min_two max_three min_three max_four min_four   -- for this text's walks alone
set_option linter.unusedVariables false
set_option linter.unusedSimpArgs false



def errW : Option Int → Value
  | none => .nilIface
  | some c => .iface 0 (.int .i64 c)
theorem errW_none : errW none = .nilIface := rfl
theorem errW_some (c : Int) : errW (some c) = .iface 0 (.int .i64 c) := rfl

-- the values' own types

end Go.Proofs.Ytahebengjoffeaa.PFnExactNonceOf
