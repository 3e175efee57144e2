/- Small words beside the kit's print: a sum of two strings, told of the whole operation. -/
import Derived.WalkKit
import Derived.Laws.Concat
import Derived.Laws.Strings
namespace Go.Proofs.Ytfblmfefcgmpfac.X
open Go.RowKit

/-- 'X + Y' of two strings, their sizes together within an int. -/
theorem add_step {P : Program} {o : Oper} {a : Act} {t : TypeId} {x y : Operand} {T2 : TypeId} {X Y : ByteArray} (ho : o.op = .binOp .add t x y T2) (hx : a.eval x = .string X) (hy : a.eval y = .string Y)
    (h : X.size + Y.size ≤ 9223372036854775807) : ∀ w' : World, (execOp a.eval o).run P w' = .ok (.value (.string (X ++ Y))) w' := by
  intro w'
  have := run_string_add_sum (P := P) w' X Y h
  unfold execOp
  simp [ho, hx, hy, binOp, eqGuard, this, Result.andThen]
end Go.Proofs.Ytfblmfefcgmpfac.X
