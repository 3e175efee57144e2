/- Two equal events are not unequal. -/
import Derived.Test.YthldophikcgkcaaHistFind
import Derived.Laws.StructEq
import Derived.Test.YthldophikcgkcaaWEqStruct
namespace Go.Proofs.Ythldophikcgkcaa.Y
set_option linter.unusedVariables false
set_option linter.unusedSimpArgs false
open Go.RowKit Go.Proofs Go.IntWalk Go.Proofs.YthldophikcgkcaaW.PrintWords Go.Proofs.Ythldophikcgkcaa.X
set_option maxHeartbeats 2000000 in
set_option maxRecDepth 100000 in
theorem neq_self {o : Oper} {a : Act} {x y : Operand} {w : World} (e : EvV) (ho : o.op = .binOp .neq 68 x y 68) (hx : a.eval x = .agg e.cells.toArray) (hy : a.eval y = .agg e.cells.toArray) :
    (execOp a.eval o).run Try.prog w = .ok (.value (.bool false)) w := by
  have h1 : ∀ d, (Op.equalIn (d + 3) 68 (.agg e.cells.toArray) (.agg e.cells.toArray)).run Try.prog w = .ok true w := by
    intro d
    obtain ⟨a1, a2, a3, ⟨b1, b2, b3, b4, b5⟩, a5, a6⟩ := e
    refine eqA_of Try.underlying68 (by kernel_rfl) ?_
    simp [go_sem, EvV.cells, Op.eqFields]
  unfold execOp
  have h2 : (Op.equal 68 (.agg e.cells.toArray) (.agg e.cells.toArray)).run Try.prog w = .ok true w := h1 9997
  simp [ho, hx, hy, binOp, eqGuard, h2, Result.andThen]
/-- A load of a whole event, as a step of a drawn region. -/
theorem load_ev {o : Oper} {a : Act} {x : Operand} {w : World} {A : Addr} (e : EvV) (ho : o.op = .load 68 x) (hx : a.eval x = .pointer (some A)) (hc : ∀ j v, e.cells[j]? = some v → w.cell? (A.add j) = some v) :
    (execOp a.eval o).run Try.prog w = .ok (.value (.agg e.cells.toArray)) w := by
  have := run_loadVar_at (P := Try.prog) w A 68 e.cells _ hc Try.underlying68 rfl (by kernel_rfl)
  unfold execOp
  simp only [ho, hx, Instr.loadAt, Instr.sureAddr, Sem.run_bind, Sem.run_pure, Result.andThen_ok, this]
end Go.Proofs.Ythldophikcgkcaa.Y
