/- tarnlaw34.ClientMost: the law's walk, as the print asks for it. -/
import Derived.Test.YthldophikcgkcaaClientMost
namespace Go.Proofs.Ythldophikcgkcaa.X
open Go.RowKit Go.Proofs.YthldophikcgkcaaW.PrintWords
def tarnlaw34_ClientMost.f (_a0 : Int) : Option Bool := some true
theorem tarnlaw34_ClientMost.calls (a0 : Int) (r : Bool) (w : World) (h : tarnlaw34_ClientMost.f a0 = some r) :
    Calls Try.prog 8 #[.int .i64 a0] w fun e w' => e = .returned (.bool r) ∧ Below w.heap.size w w' := by
  obtain rfl := Option.some.inj h
  exact Y.walk_most a0 w
end Go.Proofs.Ythldophikcgkcaa.X
