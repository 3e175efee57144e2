-- Printed by wip/xprint of this session, over the kit's print: Lean functions for Go functions, and their contracts.
import Derived.Test.YthldophikcgkcaaPPlaysx0
import Derived.Test.YthldophikcgkcaaWalkClientPlays
namespace Go.Proofs.Ythldophikcgkcaa.PPlays
open Go.RowKit Go.Proofs.YthldophikcgkcaaW.PrintWords Go.Proofs.YthldophikcgkcaaW.PrintLast Go.Proofs.YthldophikcgkcaaW.PrintMore Go.Proofs.Ythldophikcgkcaa.X
attribute [local go_sem] max2_int min2_int max_two min_two max_three min_three max_four min_four   -- for this text's walks alone
set_option linter.unusedVariables false
set_option linter.unusedSimpArgs false

/-! ### tarnlaw34_ClientPlays: function 7 -/

/-- THE ONE PURE STATEMENT of tarnlaw34_ClientPlays: yours. -/
def tarnlaw34_ClientPlays.Pure : Prop := ∀ (l0 : List (S65)), (l0.length ≤ 9223372036854775807 ∧ ∀ y ∈ l0, Wf65 y) → tarnlaw34_ClientPlays.f l0 = some true
theorem tarnlaw34_ClientPlays.walk (P : tarnlaw34_ClientPlays.Pure) (A0 : Option Addr) (c0 : Nat) (l0 : List (S65)) (w : World) (hr0 : Kd.C k65 w A0 l0.length l0) (hc0 : l0.length ≤ c0) (w0 : l0.length ≤ 9223372036854775807 ∧ ∀ y ∈ l0, Wf65 y) :
    Calls Try.prog 7 #[.slice A0 l0.length c0] w fun e w' => e = .returned (.bool true) ∧ Below w.heap.size w w' := by
  have h := P l0 w0
  refine (tarnlaw34_ClientPlays.calls A0 c0 l0 true w hr0 hc0 h).mono ?_
  rintro e w' ⟨rfl, hd⟩
  exact ⟨rfl, hd⟩
end Go.Proofs.Ythldophikcgkcaa.PPlays
