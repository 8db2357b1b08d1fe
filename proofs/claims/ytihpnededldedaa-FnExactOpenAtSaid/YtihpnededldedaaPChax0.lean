-- Written by a program of this session (it turns the kit's print tool to leaves that were proved by hand). Lean checks it.
import Derived.Test.YtihpnededldedaaProg
import Derived.Below
import Derived.Deep.Draws
import Derived.Deep.AppendLies
import Derived.Maps.AppendAt
import Derived.OwnWalk
import Derived.Laws.BytesArg
import Derived.Laws.MakeOwn
import Derived.Laws.OwnMore
import Derived.Deep.OwnRows
import Derived.Tactics
import Derived.Lib.ConvBytes
import Derived.Laws.Slices
import Derived.WalkKit
import Derived.KernelRfl
import Derived.RowKit3
import Derived.Deep.LoopGhost
import Derived.Deep.QuietTactic
import Derived.BigQuiet
import Derived.WideLaws
import Derived.Deep.DeepCutAuto
import Derived.Deep.CutBlock
import Derived.Deep.RegionHeld3
import Derived.Laws.Rows
import Derived.Lib.AppendStr
import Derived.ArgAppend
import Derived.Laws.IdiomCopy
import Derived.OrdersHeld
import Derived.Laws.BitsLemmas
import Derived.RowKit
import Derived.Test.YtihpnededldedaaBase
import Derived.Test.YtihpnededldedaaWWords
import Derived.Test.YtihpnededldedaaWLast
import Derived.Test.YtihpnededldedaaWTab
import Derived.Test.YtihpnededldedaaWFour
import Derived.Test.YtihpnededldedaaWQPut
import Derived.Test.YtihpnededldedaaWApart
import Derived.Test.YtihpnededldedaaWArr
import Derived.Test.YtihpnededldedaaWZeros
import Derived.Test.YtihpnededldedaaWFoot
import Derived.Test.YtihpnededldedaaWKept
import Derived.Test.YtihpnededldedaaWShare
import Derived.Test.YtihpnededldedaaWN
import Derived.Test.YtihpnededldedaaWFootNe
import Derived.Test.YtihpnededldedaaWAt
import Derived.Test.YtihpnededldedaaWEqStruct
import Derived.Test.YtihpnededldedaaWRepsOne
import Derived.Test.YtihpnededldedaaWInv
import Derived.Test.YtihpnededldedaaWInvWords
import Derived.Test.YtihpnededldedaaWGuard
import Derived.Test.YtihpnededldedaaWNEv
import Derived.Test.YtihpnededldedaaWMore
namespace Go.Proofs.Ytihpnededldedaa.PCha
open Go.RowKit Go.Proofs.Ytihpnededldedaa.Leaf Go.Proofs.YtihpnededldedaaW.PrintWords Go.Proofs.YtihpnededldedaaW.PrintLast Go.Proofs.YtihpnededldedaaW.PrintMore
attribute [local go_sem] max2_int min2_int max_two min_two max_three min_three max_four min_four   -- for this text's walks alone
set_option linter.unusedVariables false
set_option linter.unusedSimpArgs false



def errW : Option Int → Value
  | none => .nilIface
  | some c => .iface 0 (.int .i64 c)
theorem errW_none : errW none = .nilIface := rfl
theorem errW_some (c : Int) : errW (some c) = .iface 0 (.int .i64 c) := rfl

theorem info5 : (Try.prog.info? 5).map (fun i => (i.zero, i.size, i.bytes)) = some (some (.int .u8 0), 1, 1) := by kernel_rfl
-- the values' own types

end Go.Proofs.Ytihpnededldedaa.PCha
