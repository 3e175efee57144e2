/- tarnlaw40.SearchOrders: the law's walk, as the print asks for it. -/
import Derived.Test.YthldophikcgkcaaSearchLaws
namespace Go.Proofs.Ythldophikcgkcaa.X
open Go.RowKit Go.Proofs.YthldophikcgkcaaW.PrintWords Go.Proofs.Ythldophikcgkcaa.PSr
def tarnlaw40_SearchOrders.f (_l0 : List S40) (_a1 : ByteArray) (_a2 : Bool) : Option Bool := some true
theorem tarnlaw40_SearchOrders.calls (A0 : Option Addr) (c0 : Nat) (l0 : List S40) (a1 : ByteArray) (a2 : Bool) (r : Bool) (w : World) (hr0 : Kd.C k40 w A0 l0.length l0) (hc0 : l0.length ≤ c0) (h : tarnlaw40_SearchOrders.f l0 a1 a2 = some r) :
    Calls Try.prog 4 #[.slice A0 l0.length c0, .string a1, .bool a2] w fun e w' => e = .returned (.bool r) ∧ Below w.heap.size w w' := by
  obtain rfl := Option.some.inj h
  exact Y.walk_orders A0 c0 l0 a1 a2 w hr0 hc0
end Go.Proofs.Ythldophikcgkcaa.X
