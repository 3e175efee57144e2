-- Cut by wip/xprint/prune.py of this session out of what the kit's print had printed.
import Derived.Test.YtjjcfipnainpiabWTab
/-! ### 56. Four, five, six operations that may come up next, in any order -/
namespace Go.Proofs.YtjjcfipnainpiabW.PrintLast
section
variable {P : Program} {ops : Array Oper} {Q : Exit → Act → World → Prop} {md : Region.Mode} {S : World → Prop} {ds : List Nat} {T : Bool × List (List Nat × List Nat)}
end
end Go.Proofs.YtjjcfipnainpiabW.PrintLast
