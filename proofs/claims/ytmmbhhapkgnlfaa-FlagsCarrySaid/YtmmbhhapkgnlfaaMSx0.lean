-- printed for this claim by a program of this session, after the form of the printed texts
import Derived.Test.YtmmbhhapkgnlfaaProg
import Derived.Below
import Derived.Deep.Draws
import Derived.Deep.AppendLies
import Derived.Maps.AppendAt
import Derived.OwnWalk
import Derived.Laws.BytesArg
import Derived.Laws.MakeOwn
import Derived.Laws.OwnMore
import Derived.Deep.OwnRows
import Derived.Tactics
import Derived.Lib.ConvBytes
import Derived.Laws.Slices
import Derived.WalkKit
import Derived.KernelRfl
import Derived.RowKit3
import Derived.Deep.LoopGhost
import Derived.Deep.QuietTactic
import Derived.BigQuiet
import Derived.WideLaws
import Derived.Deep.DeepCutAuto
import Derived.Deep.CutBlock
import Derived.Deep.RegionHeld3
import Derived.Laws.Rows
import Derived.Lib.AppendStr
import Derived.ArgAppend
import Derived.Laws.IdiomCopy
import Derived.OrdersHeld
import Derived.Laws.BitsLemmas
import Derived.RowKit
import Derived.Test.YtmmbhhapkgnlfaaWWords
import Derived.Test.YtmmbhhapkgnlfaaWLast
import Derived.Test.YtmmbhhapkgnlfaaWTab
import Derived.Test.YtmmbhhapkgnlfaaWFour
import Derived.Test.YtmmbhhapkgnlfaaWQPut
import Derived.Test.YtmmbhhapkgnlfaaWApart
import Derived.Test.YtmmbhhapkgnlfaaWArr
import Derived.Test.YtmmbhhapkgnlfaaWZeros
import Derived.Test.YtmmbhhapkgnlfaaWFoot
import Derived.Test.YtmmbhhapkgnlfaaWKept
import Derived.Test.YtmmbhhapkgnlfaaWShare
import Derived.Test.YtmmbhhapkgnlfaaWN
import Derived.Test.YtmmbhhapkgnlfaaWFootNe
import Derived.Test.YtmmbhhapkgnlfaaWAt
import Derived.Test.YtmmbhhapkgnlfaaWEqStruct
import Derived.Test.YtmmbhhapkgnlfaaWRepsOne
import Derived.Test.YtmmbhhapkgnlfaaWInv
import Derived.Test.YtmmbhhapkgnlfaaWInvWords
import Derived.Test.YtmmbhhapkgnlfaaWGuard
import Derived.Test.YtmmbhhapkgnlfaaWNEv
import Derived.Test.YtmmbhhapkgnlfaaWMore
namespace Go.Proofs.Ytmmbhhapkgnlfaa.MS
open Go.RowKit Go.Proofs.YtmmbhhapkgnlfaaW.PrintWords Go.Proofs.YtmmbhhapkgnlfaaW.PrintLast Go.Proofs.YtmmbhhapkgnlfaaW.PrintMore
attribute [local go_sem] max2_int min2_int max_two min_two max_three min_three max_four min_four   -- for this text's walks alone
set_option linter.unusedVariables false
set_option linter.unusedSimpArgs false



def errW : Option Int → Value
  | none => .nilIface
  | some c => .iface 0 (.int .i64 c)
theorem errW_none : errW none = .nilIface := rfl
theorem errW_some (c : Int) : errW (some c) = .iface 0 (.int .i64 c) := rfl

-- the values' own types

end Go.Proofs.Ytmmbhhapkgnlfaa.MS
