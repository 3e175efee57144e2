-- Printed by wip/xprint of this session, over the kit's print: Lean functions for Go functions, and their contracts.
import Derived.Test.YthldophikcgkcaaPSrx0
import Derived.Test.YthldophikcgkcaaWalkSearchMore
namespace Go.Proofs.Ythldophikcgkcaa.PSr
open Go.RowKit Go.Proofs.YthldophikcgkcaaW.PrintWords Go.Proofs.YthldophikcgkcaaW.PrintLast Go.Proofs.YthldophikcgkcaaW.PrintMore Go.Proofs.Ythldophikcgkcaa.X
attribute [local go_sem] max2_int min2_int max_two min_two max_three min_three max_four min_four   -- for this text's walks alone
set_option linter.unusedVariables false
set_option linter.unusedSimpArgs false

/-! ### tarnlaw40_SearchMore: function 5 -/

/-- THE ONE PURE STATEMENT of tarnlaw40_SearchMore: yours. -/
def tarnlaw40_SearchMore.Pure : Prop := ∀ (l0 : List (S40)) (a1 : ByteArray) (a2_0 : Bool) (a2_1 : ByteArray) (a2_2 : Int) (a2_3 : Int), (l0.length ≤ 9223372036854775807 ∧ ∀ y ∈ l0, Wf40 y) → a1.size ≤ 140737488351232 → Wf40 (⟨a2_0, a2_1, a2_2, a2_3⟩ : S40) → tarnlaw40_SearchMore.f l0 a1 a2_0 a2_1 a2_2 a2_3 = some true
theorem tarnlaw40_SearchMore.walk (P : tarnlaw40_SearchMore.Pure) (A0 : Option Addr) (c0 : Nat) (l0 : List (S40)) (a1 : ByteArray) (a2_0 : Bool) (a2_1 : ByteArray) (a2_2 : Int) (a2_3 : Int) (w : World) (hr0 : Kd.C k40 w A0 l0.length l0) (hc0 : l0.length ≤ c0) (w0 : l0.length ≤ 9223372036854775807 ∧ ∀ y ∈ l0, Wf40 y) (w1 : a1.size ≤ 140737488351232) (w2 : Wf40 (⟨a2_0, a2_1, a2_2, a2_3⟩ : S40)) :
    Calls Try.prog 5 #[.slice A0 l0.length c0, .string a1, .agg #[.bool a2_0, .string a2_1, .int .i64 a2_2, .int .i64 a2_3]] w fun e w' => e = .returned (.bool true) ∧ Below w.heap.size w w' := by
  have h := P l0 a1 a2_0 a2_1 a2_2 a2_3 w0 w1 w2
  refine (tarnlaw40_SearchMore.calls A0 c0 l0 a1 a2_0 a2_1 a2_2 a2_3 true w hr0 hc0 h).mono ?_
  rintro e w' ⟨rfl, hd⟩
  exact ⟨rfl, hd⟩
end Go.Proofs.Ythldophikcgkcaa.PSr
