/- Small words beside the kit's print: a sum of two strings, told of the whole operation. -/
import Derived.WalkKit
import Derived.Laws.Concat
import Derived.Laws.Strings
import Derived.Laws.Strings2
import Derived.Laws.Strings3
import Derived.Laws.Slices
import Derived.Laws.Rows
import Derived.Laws.Tables
import Derived.Test.YthldophikcgkcabWWords
namespace Go.Proofs.Ythldophikcgkcab.X
open Go.RowKit Go.Proofs.YthldophikcgkcabW.PrintWords

/-- 'X + Y' of two strings, their sizes together within an int. -/
theorem add_step {P : Program} {o : Oper} {a : Act} {t : TypeId} {x y : Operand} {T2 : TypeId} {X Y : ByteArray} (ho : o.op = .binOp .add t x y T2) (hx : a.eval x = .string X) (hy : a.eval y = .string Y)
    (h : X.size + Y.size ≤ 9223372036854775807) : ∀ w' : World, (execOp a.eval o).run P w' = .ok (.value (.string (X ++ Y))) w' := by
  intro w'
  have := run_string_add_sum (P := P) w' X Y h
  unfold execOp
  simp [ho, hx, hy, binOp, eqGuard, this, Result.andThen]
/-- 'X[:h]' of a string. -/
theorem cut_hi {P : Program} {o : Oper} {a : Act} {t : TypeId} {x y : Operand} {k : IntKind} {X : ByteArray} {h : Int} (hu : P.underlying t = some .string) (ho : o.op = .slice t x none (some y) none) (hx : a.eval x = .string X) (hy : a.eval y = .int k h)
    (h0 : 0 ≤ h) (h1 : h ≤ (X.size : Int)) : ∀ w' : World, (execOp a.eval o).run P w' = .ok (.value (.string (X.extract 0 h.toNat))) w' := by
  intro w'
  have := run_slice_string_to_if (P := P) w' t X k h hu
  rw [if_pos ⟨h0, h1⟩] at this
  unfold execOp
  simp [ho, hx, hy, run_sliceAt_string, hu, this, Result.andThen]
theorem cut_hi_n {P : Program} {o : Oper} {a : Act} {t : TypeId} {x y : Operand} {k : IntKind} {X : ByteArray} {h : Nat} (hu : P.underlying t = some .string) (ho : o.op = .slice t x none (some y) none) (hx : a.eval x = .string X) (hy : a.eval y = .int k (h : Int))
    (h1 : (h : Int) ≤ (X.size : Int)) : ∀ w' : World, (execOp a.eval o).run P w' = .ok (.value (.string (X.extract 0 h))) w' := by
  have := cut_hi hu ho hx hy (by omega) h1
  rwa [Int.toNat_natCast] at this
/-- 'X[l:]' of a string. -/
theorem cut_lo {P : Program} {o : Oper} {a : Act} {t : TypeId} {x y : Operand} {k : IntKind} {X : ByteArray} {h : Int} (hu : P.underlying t = some .string) (ho : o.op = .slice t x (some y) none none) (hx : a.eval x = .string X) (hy : a.eval y = .int k h)
    (h0 : 0 ≤ h) (h1 : h ≤ (X.size : Int)) : ∀ w' : World, (execOp a.eval o).run P w' = .ok (.value (.string (X.extract h.toNat X.size))) w' := by
  intro w'
  have := run_slice_string_from_if (P := P) w' t X k h hu
  rw [if_pos ⟨h0, h1⟩] at this
  unfold execOp
  simp [ho, hx, hy, run_sliceAt_string, hu, this, Result.andThen]
/-- 'X[l:h]' of a string. -/
theorem cut_both {P : Program} {o : Oper} {a : Act} {t : TypeId} {x y z : Operand} {k k' : IntKind} {X : ByteArray} {l h : Int} (hu : P.underlying t = some .string) (ho : o.op = .slice t x (some y) (some z) none) (hx : a.eval x = .string X) (hy : a.eval y = .int k l) (hz : a.eval z = .int k' h)
    (h0 : 0 ≤ l) (h1 : l ≤ h) (h2 : h ≤ (X.size : Int)) : ∀ w' : World, (execOp a.eval o).run P w' = .ok (.value (.string (X.extract l.toNat h.toNat))) w' := by
  intro w'
  have := run_slice_string (P := P) w' t X k k' l h hu h0 h1 h2
  unfold execOp
  simp [ho, hx, hy, hz, run_sliceAt_string, hu, this, Result.andThen]

/-- Stores of a struct's cells, one after the other. -/
def sets (w : World) (g : Nat) : Nat → List Value → World
  | _, [] => w
  | i, v :: l => sets (w.setCell ⟨g, i, none⟩ v) g (i + 1) l
theorem run_storeCells_sets {P : Program} (g : Nat) (t : TypeId) : ∀ (vs : List Value) (i : Nat) (cur : Array Value) (w : World), w.heap[g]? = some (.cells cur t (0, 0)) → i + vs.length = cur.size → (∀ v ∈ vs, v.oneCell' = true) →
    (storeCells ⟨g, 0, none⟩ vs i).run P w = .ok () (sets w g i vs)
  | [], i, cur, w, hg, hl, _ => rfl
  | v :: rest, i, cur, w, hg, hl, h1 => by
    have hi : i < cur.size := by simp at hl; omega
    have hadd : (⟨g, 0, none⟩ : Addr).add i = ⟨g, i, none⟩ := by unfold Addr.add; split <;> simp_all
    have hcell : w.cell? ⟨g, i, none⟩ = some cur[i] := by simp [World.cell?, hg, hi]
    have hfro : w.frozen? ⟨g, i, none⟩ = false := by simp [World.frozen?, hg]
    have hst : (store ((⟨g, 0, none⟩ : Addr).add i) v).run P w = .ok () (w.setCell ⟨g, i, none⟩ v) := by
      rw [hadd, run_store P w _ v _ (h1 v (by simp)), hcell]
      simp [hfro]
    have hg2 : (w.setCell ⟨g, i, none⟩ v).heap[g]? = some (.cells (cur.setIfInBounds i v) t (0, 0)) := blk_set hg i v
    have := run_storeCells_sets (P := P) g t rest (i + 1) (cur.setIfInBounds i v) (w.setCell ⟨g, i, none⟩ v) hg2 (by simp at hl ⊢; omega) (fun u hu => h1 u (by simp [hu]))
    show ((store ((⟨g, 0, none⟩ : Addr).add i) v) >>= fun _ => storeCells ⟨g, 0, none⟩ rest (i + 1)).run P w = _
    rw [Sem.run_bind, hst, Result.andThen_ok, this]
    rfl
theorem wpList_store_sets {P : Program} {ops : Array Oper} {rest : List Oper} {o : Oper} {a : Act} {w : World} {Q : Exit → Act → World → Prop} (hgd : o.guard = none) (ty : TypeId) (x y : Operand) (ho : o.op = .store ty x y)
    (g : Nat) (cells : Array Value) (hx : a.eval x = .pointer (some ⟨g, 0, none⟩)) (hy : a.eval y = .agg cells)
    (t : TypeId) (old : Array Value) (hg : w.heap[g]? = some (.cells old t (0, 0))) (hi : (P.info? ty).map (·.size) = some cells.size)
    (hold : old.size = cells.size) (h1 : cells.all (·.oneCell') = true)
    (h : wpList P ops Q rest (a.put o.dst undef) (sets w g 0 cells.toList)) : wpList P ops Q (o :: rest) a w :=
  wpList_plain hgd fun K hK => by
    have hrun : (storeVar ty ⟨g, 0, none⟩ (.agg cells)).run P w = .ok () (sets w g 0 cells.toList) := by
      have := run_storeCells_sets (P := P) g t cells.toList 0 old w hg (by simp; omega) (fun v hv => (Array.all_eq_true_iff_forall_mem.1 h1) v (by simpa using hv))
      cases hq : P.info? ty with
      | none => simp [hq] at hi
      | some i =>
        have hs : cells.size = i.size := by simp [hq] at hi; omega
        simp [storeVar, sizeOf, typeInfo, hq, Value.cells, hs, this]
    unfold Oper.wp execOp
    simp only [ho, hx, hy, Instr.storeAt, Instr.sureAddr, Sem.run_bind, Sem.run_pure, Result.andThen_ok, hrun]
    exact hK _ _ h
end Go.Proofs.Ythldophikcgkcab.X
