/- There is an order just if one of all orders is one: the walk (WalkSearchOrders) shows it whole. -/
import Derived.Test.YthldophikcgkcaaPSrx2
namespace Go.Proofs.Ythldophikcgkcaa.Pure
open Go.RowKit Go.Proofs.Ythldophikcgkcaa.PSr Go.Proofs.YthldophikcgkcaaW.PrintWords Go.Proofs.YthldophikcgkcaaW.PrintLast Go.Proofs.Ythldophikcgkcaa.X
theorem SearchOrders : tarnlaw40_SearchOrders.Pure := by
  intro l0 a1 a2 _ _
  rfl
end Go.Proofs.Ythldophikcgkcaa.Pure
