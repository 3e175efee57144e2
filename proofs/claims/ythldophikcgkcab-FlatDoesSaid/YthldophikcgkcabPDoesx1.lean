-- Printed by wip/xprint of this session, over the kit's print: Lean functions for Go functions, and their contracts.
import Derived.Test.YthldophikcgkcabPDoesx0
import Derived.Test.YthldophikcgkcabWalkFlatDoes
namespace Go.Proofs.Ythldophikcgkcab.PDoes
open Go.RowKit Go.Proofs.YthldophikcgkcabW.PrintWords Go.Proofs.YthldophikcgkcabW.PrintLast Go.Proofs.YthldophikcgkcabW.PrintMore Go.Proofs.Ythldophikcgkcab.X
attribute [local go_sem] max2_int min2_int max_two min_two max_three min_three max_four min_four   -- for this text's walks alone
set_option linter.unusedVariables false
set_option linter.unusedSimpArgs false

/-! ### tarnlaw35_FlatDoes: function 5 -/

/-- THE ONE PURE STATEMENT of tarnlaw35_FlatDoes: yours. -/
def tarnlaw35_FlatDoes.Pure : Prop := ∀ (a0 : Int) (l1 : List (S66)) (a2 : Int), (Lit.int .i64 a0).wf = true → (l1.length ≤ 9223372036854775807 ∧ ∀ y ∈ l1, Wf66 y) → (Lit.int .i64 a2).wf = true → tarnlaw35_FlatDoes.f a0 l1 a2 = some true
theorem tarnlaw35_FlatDoes.walk (P : tarnlaw35_FlatDoes.Pure) (a0 : Int) (A1 : Option Addr) (c1 : Nat) (l1 : List (S66)) (a2 : Int) (w : World) (w0 : (Lit.int .i64 a0).wf = true) (hr1 : Kd.C k66 w A1 l1.length l1) (hc1 : l1.length ≤ c1) (w1 : l1.length ≤ 9223372036854775807 ∧ ∀ y ∈ l1, Wf66 y) (w2 : (Lit.int .i64 a2).wf = true) :
    Calls Try.prog 5 #[.int .i64 a0, .slice A1 l1.length c1, .int .i64 a2] w fun e w' => e = .returned (.bool true) ∧ Below w.heap.size w w' := by
  have h := P a0 l1 a2 w0 w1 w2
  refine (tarnlaw35_FlatDoes.calls a0 A1 c1 l1 a2 true w hr1 hc1 h).mono ?_
  rintro e w' ⟨rfl, hd⟩
  exact ⟨rfl, hd⟩
end Go.Proofs.Ythldophikcgkcab.PDoes
