/- Appending uses; what tarnlaw40.SearchMore holds. -/
import Derived.Test.YthldophikcgkcaaSearchLaws
import Derived.Maps.AppendAt
namespace Go.Proofs.Ythldophikcgkcaa.Y
set_option linter.unusedVariables false
set_option linter.unusedSimpArgs false
open Go.RowKit Go.Proofs Go.IntWalk Go.Proofs.YthldophikcgkcaaW.PrintWords Go.Proofs.YthldophikcgkcaaW.PrintLast Go.Proofs.YthldophikcgkcaaW.PrintMore Go.Proofs.Ythldophikcgkcaa.X Go.Proofs.Ythldophikcgkcaa.PSr

set_option maxRecDepth 100000 in
theorem app_x (W : World) (base : Nat) (v : Value) (n : Nat) (xs : List Value) (hown : W.ownsRow base 40 4 v n xs) (A : Option Addr) (c : Nat) (r : List U) (hA : ArgU W A c r) (hn : n + r.length ≤ 100) (hbase : base ≤ W.heap.size) :
    ∃ v' w', (Builtin.append_ #[34, 34] 34 #[v, .slice A r.length c]).run Try.prog W = .ok v' w' ∧ w'.ownsRow base 40 4 v' (n + r.length) (xs ++ flatU r) ∧ W.grownBy w' v.ownBlock ∧ (v'.ownBlock = v.ownBlock ∨ v'.ownBlock = some W.heap.size) := by
  obtain ⟨i0, hi, hzz⟩ := Option.map_eq_some_iff.1 (show (Try.prog.info? 40).map (fun i => (i.zero, i.size, i.bytes)) = some (some (.agg #[.bool false, .string ⟨#[]⟩, .int .i64 0, .int .i64 0]), 4, 40) by kernel_rfl)
  simp only [Prod.mk.injEq] at hzz
  obtain ⟨hz0, hz1, hz2⟩ := hzz
  rcases hA.a with ⟨rfl, rfl⟩ | ⟨g, rfl, hg⟩
  · have ht := Try.underlying34
    refine ⟨v, W, ?_, by simpa [flatU] using hown, World.grownBy.refl W _, Or.inl rfl⟩
    rcases hown.2 with ⟨rfl, hn0⟩ | ⟨g, cap, cur, rfl, _, _, hnc, _⟩
    · simp [Builtin.append_, run_underlying ht, sizeOf, typeInfo, hi, Builtin.lenOf, Builtin.firstCells]
    · simp [Builtin.append_, run_underlying ht, sizeOf, typeInfo, hi, Builtin.lenOf, Builtin.firstCells, hnc, storeCells]
  · obtain ⟨v', w', h1, h2, h3, _, h5⟩ := run_append_own_at (P := Try.prog) W base 34 34 40 i0 _ 4 40 Try.underlying34 hi hz0 hz1 hz2 rfl (by decide) v n xs hown ⟨g, 0, none⟩ r.length c (flatU r) (flatU_len r) (fun j u hj => by rw [add_zero_]; exact flat_of_row hA.r j u hj) (flatU_one r) (by unfold maxLen; omega) (by omega) hbase
    exact ⟨v', w', h1, h2, h3, h5⟩
theorem arg_of_own {w : World} {B : Nat} {v : Value} {l : List U} (h : w.ownsRow B 40 4 v l.length (flatU l)) : ∃ A c, v = .slice A l.length c ∧ ArgU w A c l := by
  rcases h.2 with ⟨rfl, h0⟩ | ⟨g, cap, cur, rfl, hB, hcur, hncap, hmax, hsz, htake⟩
  · have : l = [] := List.eq_nil_of_length_eq_zero h0
    subst this
    exact ⟨none, 0, rfl, Or.inl ⟨rfl, rfl⟩, fun k hk => absurd hk (by simp)⟩
  · have hg : g < w.heap.size := (Array.getElem?_eq_some_iff.1 hcur).1
    refine ⟨some ⟨g, 0, none⟩, cap, rfl, Or.inr ⟨g, rfl, hg⟩, row_of_flat hg fun j u hj => ?_⟩
    have : w.cell? ⟨g, j, none⟩ = cur[j]? := cell_of_row w g j cur _ _ hcur
    rw [this]
    rw [← htake] at hj
    have hj' : j < l.length * 4 := by
      have := (List.getElem?_eq_some_iff.1 hj).1
      rw [List.length_take] at this
      omega
    rw [List.getElem?_take_of_lt hj'] at hj
    simpa using hj
/-- What the law holds behind the world w1: the uses, and the use that is laid behind them. -/
structure LMS (w w1 wr : World) (gy : Nat) (A : Option Addr) (c : Nat) (r : List U) (y : U) : Prop where
  a : (A = none ∧ r = []) ∨ ∃ g, A = some ⟨g, 0, none⟩ ∧ g < w1.heap.size
  r : RowU w1 A r
  y : w1.heap[gy]? = some (.cells #[.bool y.f0, .string y.f1, .int .i64 y.f2, .int .i64 y.f3] 40 (0, 0))
  s : Below w.heap.size w w1
  b : Below w1.heap.size w1 wr
theorem LMS.below {w w1 wr w' : World} {gy : Nat} {A : Option Addr} {c : Nat} {r : List U} {y : U} (h : LMS w w1 wr gy A c r y) (hb : Below wr.heap.size wr w') : LMS w w1 w' gy A c r y := ⟨h.a, h.r, h.y, h.s, below_step h.b hb⟩
theorem LMS.grown {w w1 wr w' : World} {gy : Nat} {A : Option Addr} {c : Nat} {r : List U} {y : U} (h : LMS w w1 wr gy A c r y) {row : Option Nat} (hg : wr.grownBy w' row) (hr : ∀ k, row = some k → w1.heap.size ≤ k) : LMS w w1 w' gy A c r y := by
  refine ⟨h.a, h.r, h.y, h.s, ⟨hg.os.trans h.b.os, hg.tape.trans h.b.tape, hg.output.trans h.b.output, Nat.le_trans h.b.size hg.size, fun j hj => ?_⟩⟩
  refine (hg.block j (Nat.lt_of_lt_of_le hj h.b.size) (fun e => ?_)).trans (h.b.block j hj)
  have := hr j e.symm
  omega
theorem LMS.arg {w w1 wr : World} {gy : Nat} {A : Option Addr} {c : Nat} {r : List U} {y : U} (h : LMS w w1 wr gy A c r y) : ArgU wr A c r := (ArgU.mk h.a h.r).below h.b
theorem LMS.yb {w w1 wr : World} {gy : Nat} {A : Option Addr} {c : Nat} {r : List U} {y : U} (h : LMS w w1 wr gy A c r y) : wr.heap[gy]? = some (.cells #[.bool y.f0, .string y.f1, .int .i64 y.f2, .int .i64 y.f3] 40 (0, 0)) := (h.b.block _ (blk_lt h.y)).trans h.y
theorem LMS.all {w w1 wr : World} {gy : Nat} {A : Option Addr} {c : Nat} {r : List U} {y : U} (h : LMS w w1 wr gy A c r y) : Below w.heap.size w wr := below_step h.s h.b
theorem append_event {P : Program} {t : TypeId} {o : Oper} {s x : Operand} {a : Act} {W w' : World} {v u v' : Value} (ho : o.op = .call { callee := .builtin .append, args := #[s, x], argTypes := #[t, t] }) (hs : a.eval s = v) (hx : a.eval x = u)
    (hr : (Builtin.append_ #[t, t] o.type #[v, u]).run P W = .ok v' w') : (execOp a.eval o).run P W = .ok (.value v') w' := by
  unfold execOp
  simp only [ho, resolve, invoke, builtin, Sem.run_bind, Sem.run_pure, Result.andThen_ok, List.map_toArray, List.map_cons, List.map_nil, hs, hx, hr]
/-- A fresh row of no uses. -/
theorem own_empty (W : World) (B : Nat) (hB : B ≤ W.heap.size) : (W.alloc (.cells #[] 40)).ownsRow B 40 4 (.slice (some ⟨W.heap.size, 0, none⟩) 0 0) 0 [] := by
  refine ⟨rfl, Or.inr ⟨W.heap.size, 0, #[], rfl, hB, heap_alloc_new W _, Nat.le_refl _, by decide, rfl, rfl⟩⟩
end Go.Proofs.Ythldophikcgkcaa.Y
