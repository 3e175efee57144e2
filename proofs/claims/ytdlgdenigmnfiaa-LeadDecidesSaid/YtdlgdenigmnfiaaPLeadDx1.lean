-- Printed by wip/xprint of this session, over the kit's print: Lean functions for Go functions, and their contracts.
import Derived.Test.YtdlgdenigmnfiaaPLeadDx0
import Derived.Test.YtdlgdenigmnfiaaWalkLeadDecides
namespace Go.Proofs.Ytdlgdenigmnfiaa.PLeadD
open Go.RowKit Go.Proofs.YtdlgdenigmnfiaaW.PrintWords Go.Proofs.YtdlgdenigmnfiaaW.PrintLast Go.Proofs.YtdlgdenigmnfiaaW.PrintMore Go.Proofs.Ytdlgdenigmnfiaa.X
attribute [local go_sem] max2_int min2_int max_two min_two max_three min_three max_four min_four   -- for this text's walks alone
set_option linter.unusedVariables false
set_option linter.unusedSimpArgs false

/-! ### tarnlaw18_LeadDecides: function 4 -/

/-- THE ONE PURE STATEMENT of tarnlaw18_LeadDecides: yours. -/
def tarnlaw18_LeadDecides.Pure : Prop := ∀ (a0_0 a0_1 a0_2 : Int) (l1 : List Int) (a2 : Int), (l1.length ≤ 9223372036854775807 ∧ ∀ y ∈ l1, (Lit.int .i64 y).wf = true) → (Lit.int .i64 a2).wf = true → tarnlaw18_LeadDecides.f a0_0 a0_1 a0_2 l1 a2 = some true
theorem tarnlaw18_LeadDecides.walk (P : tarnlaw18_LeadDecides.Pure) (a0_0 a0_1 a0_2 : Int) (A1 : Option Addr) (c1 : Nat) (l1 : List Int) (a2 : Int) (w : World) (hr1 : Kd.C (Kd.int .i64) w A1 l1.length l1) (hc1 : l1.length ≤ c1) (w1 : l1.length ≤ 9223372036854775807 ∧ ∀ y ∈ l1, (Lit.int .i64 y).wf = true) (w2 : (Lit.int .i64 a2).wf = true) :
    Calls Try.prog 4 #[.agg #[.int .i64 a0_0, .int .i64 a0_1, .int .i64 a0_2], .slice A1 l1.length c1, .int .i64 a2] w fun e w' => e = .returned (.bool true) ∧ Below w.heap.size w w' := by
  have h := P a0_0 a0_1 a0_2 l1 a2 w1 w2
  refine (tarnlaw18_LeadDecides.calls a0_0 a0_1 a0_2 A1 c1 l1 a2 true w hr1 hc1 h).mono ?_
  rintro e w' ⟨rfl, hd⟩
  exact ⟨rfl, hd⟩
end Go.Proofs.Ytdlgdenigmnfiaa.PLeadD
