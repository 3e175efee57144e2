-- Printed by wip/xprint of this session, over the kit's print: Lean functions for Go functions, and their contracts.
import Derived.Test.YtjjcfipnainpiaaPPlanx0
namespace Go.Proofs.Ytjjcfipnainpiaa.PPlan
open Go.RowKit Go.Proofs.YtjjcfipnainpiaaW.PrintWords Go.Proofs.YtjjcfipnainpiaaW.PrintLast Go.Proofs.YtjjcfipnainpiaaW.PrintMore Go.Proofs.Ytjjcfipnainpiaa.X
attribute [local go_sem] max2_int min2_int max_two min_two max_three min_three max_four min_four   -- for this text's walks alone
set_option linter.unusedVariables false
set_option linter.unusedSimpArgs false

/-! ### tarnref08_Zeros: function 36 -/
def tarnref08_Zeros.f  : Option (ByteArray) := some (⟨#[0, 0, 0, 0, 0, 0, 0, 0, 0, 0, 0, 0, 0, 0, 0, 0, 0, 0, 0, 0, 0, 0, 0, 0, 0, 0, 0, 0, 0, 0, 0, 0]⟩ : ByteArray)
set_option maxHeartbeats 8000000 in
set_option maxRecDepth 100000 in
theorem tarnref08_Zeros.calls  (r : ByteArray) (w : World) (h : tarnref08_Zeros.f  = some r) :
    Calls Try.prog 36 #[] w fun e w' => e = .returned (.string r) ∧ Drawn0 w w' := by
  have H : (some (⟨#[0, 0, 0, 0, 0, 0, 0, 0, 0, 0, 0, 0, 0, 0, 0, 0, 0, 0, 0, 0, 0, 0, 0, 0, 0, 0, 0, 0, 0, 0, 0, 0]⟩ : ByteArray)) = some r := h
  clear h
  obtain rfl := Option.some.inj H
  go_enter Try.func36, Try.ntmps36
  go_wp2
  go_ret
  exact ⟨by first | rfl | (simp; done) | (simp [*]; done), by repeat (first | exact Drawn0.refl _ | apply Drawn0.step)⟩

end Go.Proofs.Ytjjcfipnainpiaa.PPlan
