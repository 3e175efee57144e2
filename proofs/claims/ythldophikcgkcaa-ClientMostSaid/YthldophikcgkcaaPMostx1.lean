-- Printed by wip/xprint of this session, over the kit's print: Lean functions for Go functions, and their contracts.
import Derived.Test.YthldophikcgkcaaPMostx0
namespace Go.Proofs.Ythldophikcgkcaa.PMost
open Go.RowKit Go.Proofs.YthldophikcgkcaaW.PrintWords Go.Proofs.YthldophikcgkcaaW.PrintLast Go.Proofs.YthldophikcgkcaaW.PrintMore Go.Proofs.Ythldophikcgkcaa.X
attribute [local go_sem] max2_int min2_int max_two min_two max_three min_three max_four min_four   -- for this text's walks alone
set_option linter.unusedVariables false
set_option linter.unusedSimpArgs false

/-! ### tarnlaw34_ClientMost: function 8 -/

/-- THE ONE PURE STATEMENT of tarnlaw34_ClientMost: yours. -/
def tarnlaw34_ClientMost.Pure : Prop := ∀ (a0 : Int), (Lit.int .i64 a0).wf = true → tarnlaw34_ClientMost.f a0 = some true
theorem tarnlaw34_ClientMost.walk (P : tarnlaw34_ClientMost.Pure) (a0 : Int) (w : World) (w0 : (Lit.int .i64 a0).wf = true) :
    Calls Try.prog 8 #[.int .i64 a0] w fun e w' => e = .returned (.bool true) ∧ Below w.heap.size w w' := by
  have h := P a0 w0
  refine (tarnlaw34_ClientMost.calls a0 true w  h).mono ?_
  rintro e w' ⟨rfl, hd⟩
  exact ⟨rfl, hd⟩
end Go.Proofs.Ythldophikcgkcaa.PMost
