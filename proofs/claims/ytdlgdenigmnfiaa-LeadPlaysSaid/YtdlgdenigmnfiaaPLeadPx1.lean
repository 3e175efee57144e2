-- Printed by wip/xprint of this session, over the kit's print: Lean functions for Go functions, and their contracts.
import Derived.Test.YtdlgdenigmnfiaaPLeadPx0
import Derived.Test.YtdlgdenigmnfiaaWalkLeadPlays
namespace Go.Proofs.Ytdlgdenigmnfiaa.PLeadP
open Go.RowKit Go.Proofs.YtdlgdenigmnfiaaW.PrintWords Go.Proofs.YtdlgdenigmnfiaaW.PrintLast Go.Proofs.YtdlgdenigmnfiaaW.PrintMore Go.Proofs.Ytdlgdenigmnfiaa.X
attribute [local go_sem] max2_int min2_int max_two min_two max_three min_three max_four min_four   -- for this text's walks alone
set_option linter.unusedVariables false
set_option linter.unusedSimpArgs false

/-! ### tarnlaw18_LeadPlays: function 3 -/

/-- THE ONE PURE STATEMENT of tarnlaw18_LeadPlays: yours. -/
def tarnlaw18_LeadPlays.Pure : Prop := ∀ (a0 : Int) (l1 : List (S27)), (Lit.int .i64 a0).wf = true → (l1.length ≤ 9223372036854775807 ∧ ∀ y ∈ l1, Wf27 y) → tarnlaw18_LeadPlays.f a0 l1 = some true
theorem tarnlaw18_LeadPlays.walk (P : tarnlaw18_LeadPlays.Pure) (a0 : Int) (A1 : Option Addr) (c1 : Nat) (l1 : List (S27)) (w : World) (w0 : (Lit.int .i64 a0).wf = true) (hr1 : Kd.C k27 w A1 l1.length l1) (hc1 : l1.length ≤ c1) (w1 : l1.length ≤ 9223372036854775807 ∧ ∀ y ∈ l1, Wf27 y) :
    Calls Try.prog 3 #[.int .i64 a0, .slice A1 l1.length c1] w fun e w' => e = .returned (.bool true) ∧ Below w.heap.size w w' := by
  have h := P a0 l1 w0 w1
  refine (tarnlaw18_LeadPlays.calls a0 A1 c1 l1 true w hr1 hc1 h).mono ?_
  rintro e w' ⟨rfl, hd⟩
  exact ⟨rfl, hd⟩
end Go.Proofs.Ytdlgdenigmnfiaa.PLeadP
