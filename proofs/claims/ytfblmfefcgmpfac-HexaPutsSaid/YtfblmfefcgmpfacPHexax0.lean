-- Printed by wip/xprint of this session, over the kit's print: Lean functions for Go functions, and their contracts.
import Derived.Test.YtfblmfefcgmpfacProg
import Derived.Below
import Derived.Deep.Draws
import Derived.Deep.AppendLies
import Derived.Maps.AppendAt
import Derived.OwnWalk
import Derived.Laws.BytesArg
import Derived.Laws.MakeOwn
import Derived.Laws.OwnMore
import Derived.Deep.OwnRows
import Derived.Tactics
import Derived.Lib.ConvBytes
import Derived.Laws.Slices
import Derived.WalkKit
import Derived.KernelRfl
import Derived.RowKit3
import Derived.Deep.LoopGhost
import Derived.Deep.QuietTactic
import Derived.BigQuiet
import Derived.WideLaws
import Derived.Deep.DeepCutAuto
import Derived.Deep.CutBlock
import Derived.Deep.RegionHeld3
import Derived.Laws.Rows
import Derived.Lib.AppendStr
import Derived.ArgAppend
import Derived.Laws.IdiomCopy
import Derived.OrdersHeld
import Derived.Laws.BitsLemmas
import Derived.RowKit
import Derived.Test.YtfblmfefcgmpfacAid
import Derived.Test.YtfblmfefcgmpfacHexaPut
import Derived.Test.YtfblmfefcgmpfacRefHexPut
import Derived.Test.YtfblmfefcgmpfacRepeat
import Derived.Test.YtfblmfefcgmpfacWWords
import Derived.Test.YtfblmfefcgmpfacWLast
import Derived.Test.YtfblmfefcgmpfacWTab
import Derived.Test.YtfblmfefcgmpfacWFour
import Derived.Test.YtfblmfefcgmpfacWQPut
import Derived.Test.YtfblmfefcgmpfacWApart
import Derived.Test.YtfblmfefcgmpfacWArr
import Derived.Test.YtfblmfefcgmpfacWZeros
import Derived.Test.YtfblmfefcgmpfacWFoot
import Derived.Test.YtfblmfefcgmpfacWKept
import Derived.Test.YtfblmfefcgmpfacWShare
import Derived.Test.YtfblmfefcgmpfacWN
import Derived.Test.YtfblmfefcgmpfacWFootNe
import Derived.Test.YtfblmfefcgmpfacWAt
import Derived.Test.YtfblmfefcgmpfacWEqStruct
import Derived.Test.YtfblmfefcgmpfacWRepsOne
import Derived.Test.YtfblmfefcgmpfacWInv
import Derived.Test.YtfblmfefcgmpfacWInvWords
import Derived.Test.YtfblmfefcgmpfacWGuard
import Derived.Test.YtfblmfefcgmpfacWNEv
import Derived.Test.YtfblmfefcgmpfacWMore
namespace Go.Proofs.Ytfblmfefcgmpfac.PHexa
open Go.RowKit Go.Proofs.YtfblmfefcgmpfacW.PrintWords Go.Proofs.YtfblmfefcgmpfacW.PrintLast Go.Proofs.YtfblmfefcgmpfacW.PrintMore Go.Proofs.Ytfblmfefcgmpfac.X
attribute [local go_sem] max2_int min2_int max_two min_two max_three min_three max_four min_four   -- for this text's walks alone
set_option linter.unusedVariables false
set_option linter.unusedSimpArgs false



def errW : Option Int → Value
  | none => .nilIface
  | some c => .iface 0 (.int .i64 c)
theorem errW_none : errW none = .nilIface := rfl
theorem errW_some (c : Int) : errW (some c) = .iface 0 (.int .i64 c) := rfl

theorem info5 : (Try.prog.info? 5).map (fun i => (i.zero, i.size, i.bytes)) = some (some (.int .u8 0), 1, 1) := by kernel_rfl
-- the values' own types

end Go.Proofs.Ytfblmfefcgmpfac.PHexa
