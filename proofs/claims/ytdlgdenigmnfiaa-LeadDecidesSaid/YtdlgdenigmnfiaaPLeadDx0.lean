-- Printed by wip/xprint of this session, over the kit's print: Lean functions for Go functions, and their contracts.
import Derived.Test.YtdlgdenigmnfiaaProg
import Derived.Below
import Derived.Deep.Draws
import Derived.Deep.AppendLies
import Derived.Maps.AppendAt
import Derived.OwnWalk
import Derived.Laws.BytesArg
import Derived.Laws.MakeOwn
import Derived.Laws.OwnMore
import Derived.Deep.OwnRows
import Derived.Tactics
import Derived.Lib.ConvBytes
import Derived.Laws.Slices
import Derived.WalkKit
import Derived.KernelRfl
import Derived.RowKit3
import Derived.Deep.LoopGhost
import Derived.Deep.QuietTactic
import Derived.BigQuiet
import Derived.WideLaws
import Derived.Deep.DeepCutAuto
import Derived.Deep.CutBlock
import Derived.Deep.RegionHeld3
import Derived.Laws.Rows
import Derived.Lib.AppendStr
import Derived.ArgAppend
import Derived.Laws.IdiomCopy
import Derived.OrdersHeld
import Derived.Laws.BitsLemmas
import Derived.RowKit
import Derived.Test.YtdlgdenigmnfiaaAid
import Derived.Test.YtdlgdenigmnfiaaOpen
import Derived.Test.YtdlgdenigmnfiaaWWords
import Derived.Test.YtdlgdenigmnfiaaWLast
import Derived.Test.YtdlgdenigmnfiaaWTab
import Derived.Test.YtdlgdenigmnfiaaWFour
import Derived.Test.YtdlgdenigmnfiaaWQPut
import Derived.Test.YtdlgdenigmnfiaaWApart
import Derived.Test.YtdlgdenigmnfiaaWArr
import Derived.Test.YtdlgdenigmnfiaaWZeros
import Derived.Test.YtdlgdenigmnfiaaWFoot
import Derived.Test.YtdlgdenigmnfiaaWKept
import Derived.Test.YtdlgdenigmnfiaaWShare
import Derived.Test.YtdlgdenigmnfiaaWN
import Derived.Test.YtdlgdenigmnfiaaWFootNe
import Derived.Test.YtdlgdenigmnfiaaWAt
import Derived.Test.YtdlgdenigmnfiaaWEqStruct
import Derived.Test.YtdlgdenigmnfiaaWRepsOne
import Derived.Test.YtdlgdenigmnfiaaWInv
import Derived.Test.YtdlgdenigmnfiaaWInvWords
import Derived.Test.YtdlgdenigmnfiaaWGuard
import Derived.Test.YtdlgdenigmnfiaaWNEv
import Derived.Test.YtdlgdenigmnfiaaWMore
namespace Go.Proofs.Ytdlgdenigmnfiaa.PLeadD
open Go.RowKit Go.Proofs.YtdlgdenigmnfiaaW.PrintWords Go.Proofs.YtdlgdenigmnfiaaW.PrintLast Go.Proofs.YtdlgdenigmnfiaaW.PrintMore Go.Proofs.Ytdlgdenigmnfiaa.X
attribute [local go_sem] max2_int min2_int max_two min_two max_three min_three max_four min_four   -- for this text's walks alone
set_option linter.unusedVariables false
set_option linter.unusedSimpArgs false



def errW : Option Int → Value
  | none => .nilIface
  | some c => .iface 0 (.int .i64 c)
theorem errW_none : errW none = .nilIface := rfl
theorem errW_some (c : Int) : errW (some c) = .iface 0 (.int .i64 c) := rfl

-- the values' own types


end Go.Proofs.Ytdlgdenigmnfiaa.PLeadD
