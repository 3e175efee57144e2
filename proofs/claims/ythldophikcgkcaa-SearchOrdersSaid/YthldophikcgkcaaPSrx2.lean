-- Printed by wip/xprint of this session, over the kit's print: Lean functions for Go functions, and their contracts.
import Derived.Test.YthldophikcgkcaaPSrx0
import Derived.Test.YthldophikcgkcaaWalkSearchOrders
namespace Go.Proofs.Ythldophikcgkcaa.PSr
open Go.RowKit Go.Proofs.YthldophikcgkcaaW.PrintWords Go.Proofs.YthldophikcgkcaaW.PrintLast Go.Proofs.YthldophikcgkcaaW.PrintMore Go.Proofs.Ythldophikcgkcaa.X
attribute [local go_sem] max2_int min2_int max_two min_two max_three min_three max_four min_four   -- for this text's walks alone
set_option linter.unusedVariables false
set_option linter.unusedSimpArgs false

/-! ### tarnlaw40_SearchOrders: function 4 -/

/-- THE ONE PURE STATEMENT of tarnlaw40_SearchOrders: yours. -/
def tarnlaw40_SearchOrders.Pure : Prop := ∀ (l0 : List (S40)) (a1 : ByteArray) (a2 : Bool), (l0.length ≤ 9223372036854775807 ∧ ∀ y ∈ l0, Wf40 y) → a1.size ≤ 140737488351232 → tarnlaw40_SearchOrders.f l0 a1 a2 = some true
theorem tarnlaw40_SearchOrders.walk (P : tarnlaw40_SearchOrders.Pure) (A0 : Option Addr) (c0 : Nat) (l0 : List (S40)) (a1 : ByteArray) (a2 : Bool) (w : World) (hr0 : Kd.C k40 w A0 l0.length l0) (hc0 : l0.length ≤ c0) (w0 : l0.length ≤ 9223372036854775807 ∧ ∀ y ∈ l0, Wf40 y) (w1 : a1.size ≤ 140737488351232) :
    Calls Try.prog 4 #[.slice A0 l0.length c0, .string a1, .bool a2] w fun e w' => e = .returned (.bool true) ∧ Below w.heap.size w w' := by
  have h := P l0 a1 a2 w0 w1
  refine (tarnlaw40_SearchOrders.calls A0 c0 l0 a1 a2 true w hr0 hc0 h).mono ?_
  rintro e w' ⟨rfl, hd⟩
  exact ⟨rfl, hd⟩
end Go.Proofs.Ythldophikcgkcaa.PSr
