-- Cut by wip/xprint/prune.py of this session out of what the kit's print had printed.
import Derived.Test.YtjjcfipnainpiabWN
/-! ### 52. A row that stays read whatever happens to a block (a set of blocks) doesn't lie there -/
namespace Go.Proofs.YtjjcfipnainpiabW.PrintWords
open Go.RowKit
namespace Kd
section
variable {α : Type} {d : Kd α} {W : World} {g n : Nat} {S ok : Nat → Prop} {A : Option Addr} {ad : Addr} {xs : List α}
end
end Kd
end Go.Proofs.YtjjcfipnainpiabW.PrintWords
