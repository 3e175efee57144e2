-- Cut by wip/xprint/prune.py of this session out of what the kit's print had printed.
import Derived.Test.YtjjcfipnainpiabWWords
import Derived.Laws.StructEq
/-! ### 53. '==' of structs as_ one Bool -/
namespace Go.Proofs.YtjjcfipnainpiabW.PrintWords
open Go.RowKit
section
variable {P : Program} {d : Nat} {xs ys : Array Value} {f : Field} {fs : List Field} {a b : Value} {r s : Bool} {w : World}
end
end Go.Proofs.YtjjcfipnainpiabW.PrintWords
