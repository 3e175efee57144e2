/- A map[int]bool that the call made, each key with 'true': looked up, laid, struck (over the kit's ownsMap: so it can be ranged over). -/
import Derived.Maps.OwnSet
import Derived.Maps.OwnOps
import Derived.Below
import Derived.RowKit
import Derived.Test.YthldophikcgkcaaProg
namespace Go.Proofs.Ythldophikcgkcaa.Y
set_option linter.unusedVariables false
set_option linter.unusedSimpArgs false
open Go Go.RowKit Go.Maps Go.MapKept

theorem intLaw : Keyed Try.prog 3 := int_keyed Try.underlying3
def InI (x : Int) : Prop := -9223372036854775808 ≤ x ∧ x ≤ 9223372036854775807
theorem wfI {x : Int} (h : InI x) : (Lit.int .i64 x).wf = true := by
  have e1 : IntKind.i64.min = -9223372036854775808 := by decide
  have e2 : IntKind.i64.max = 9223372036854775807 := by decide
  simp [Lit.wf, e1, e2]
  exact h
theorem keyI {x : Int} (h : InI x) : keyOf Try.prog 3 (.int .i64 x) = some (.int .i64 x) := keyOf_int_mk Try.underlying3 (wfI h)
theorem zeroB (w : World) : (zeroValue 4).run Try.prog w = .ok (.bool false) w := by kernel_rfl
/-- Block b is a map of at most N keys, just those for which S, each with 'true'. -/
def OMap (w : World) (b N : Nat) (S : Int → Prop) : Prop :=
  ∃ D : DataW Unit, w.ownsMap Try.prog 3 (plainElem Try.prog 4) b N D ∧ ∀ x, InI x → (Maps.has D (.int .i64 x) = true ↔ S x) ∧ (S x → D.atKey (.int .i64 x) (.lit (.bool false)) = .lit (.bool true))
theorem OMap.blk {w : World} {b N : Nat} {S : Int → Prop} (h : OMap w b N S) : ∃ es k, w.heap[b]? = some (.map es k) := by
  obtain ⟨D, ⟨es, k, hb, _⟩, _⟩ := h
  exact ⟨es, k, hb⟩
theorem OMap.same {w w' : World} {b N : Nat} {S : Int → Prop} (h : OMap w b N S) (he : w'.heap[b]? = w.heap[b]?) : OMap w' b N S := by
  obtain ⟨D, ⟨es, k, hb, h1⟩, h2⟩ := h
  exact ⟨D, ⟨es, k, he.trans hb, h1⟩, h2⟩
theorem OMap.made (w : World) : OMap (w.alloc (.map #[] 0)) w.heap.size 0 (fun _ => False) :=
  ⟨.map [], World.ownsMap_made _ _ _ _, fun x _ => ⟨⟨fun h => absurd h (by simp [Maps.has]), fun h => absurd h id⟩, fun h => absurd h id⟩⟩
set_option maxRecDepth 100000 in
theorem elem_bool {v : Value} {r : Bool} {ps : List MemPlace} (hv : plainElem (H := Unit) Try.prog 4 v = some (.lit (.bool r), ps)) : v = .bool r := by
  unfold plainElem at hv
  rw [Try.underlying4] at hv
  cases v with
  | bool b =>
    simp only [Option.some.injEq, Prod.mk.injEq, DataW.lit.injEq, Lit.bool.injEq] at hv
    rw [hv.1]
  | _ => exact absurd hv (by simp)
theorem OMap.look {w : World} {b N : Nat} {S : Int → Prop} (h : OMap w b N S) {x : Int} (hx : InI x) :
    ∃ r : Bool, (Instr.lookup 100 (.map (some b)) (.int .i64 x) false).run Try.prog w = .ok (.bool r) w ∧ (r = true ↔ S x) := by
  obtain ⟨D, hD, hS⟩ := h
  obtain ⟨v, ps, hrun, hv⟩ := hD.lookup intLaw Try.underlying100 (zeroB w) (plainElem_bool Try.underlying4 false) (keyI hx)
  by_cases hs : S x
  · have hat := (hS x hx).2 hs
    rw [hat] at hv
    refine ⟨true, ?_, fun _ => hs, fun _ => rfl⟩
    rw [← elem_bool hv]; exact hrun
  · have hnh : Maps.has D (.int .i64 x) = false := by
      cases hh : Maps.has D (.int .i64 x) with
      | false => rfl
      | true => exact absurd ((hS x hx).1.1 hh) hs
    rw [Maps.atKey_of_not_has hnh] at hv
    refine ⟨false, ?_, fun h => absurd h (by decide), fun h => absurd h hs⟩
    rw [← elem_bool hv]; exact hrun
theorem litI_ne {x y : Int} (h : x ≠ y) : (Lit.int .i64 x) ≠ (Lit.int .i64 y) := fun e => h (by injection e)
theorem OMap.lay {w : World} {b N : Nat} {S : Int → Prop} (h : OMap w b N S) (hN : N ≤ 1000000) {x : Int} (hx : InI x) :
    ∃ w', (Instr.mapUpdate 100 (.map (some b)) (.int .i64 x) (.bool true)).run Try.prog w = .ok () w' ∧ OMap w' b (N + 1) (fun y => S y ∨ y = x) ∧ w.grownBy w' (some b) := by
  obtain ⟨D, hD, hS⟩ := h
  have hM := hD.isMap
  obtain ⟨w', hrun, hD', hg⟩ := hD.update intLaw Try.underlying100 (by unfold maxLen; omega) (keyI hx) (plainElem_bool Try.underlying4 true)
  have hk : WideAt.IsKeyLit (Lit.int .i64 x) := intLaw.key (keyI hx)
  refine ⟨w', hrun, ⟨_, hD', fun y hy => ?_⟩, hg⟩
  · by_cases c : y = x
    · subst c
      exact ⟨⟨fun _ => Or.inr rfl, fun _ => Maps.has_put_same hM hk _⟩, fun _ => Maps.atKey_put_same hM hk _ _⟩
    · rw [Maps.has_put_other (litI_ne c), Maps.atKey_put_other (litI_ne c)]
      exact ⟨⟨fun h => Or.inl ((hS y hy).1.1 h), fun h => (hS y hy).1.2 (h.resolve_right c)⟩, fun h => (hS y hy).2 (h.resolve_right c)⟩
theorem OMap.drop {w : World} {b N : Nat} {S : Int → Prop} (h : OMap w b N S) {x : Int} (hx : InI x) (ty : TypeId) :
    ∃ w', (Builtin.delete_ #[100, 3] ty #[.map (some b), .int .i64 x]).run Try.prog w = .ok (.tuple #[]) w' ∧ OMap w' b N (fun y => S y ∧ y ≠ x) ∧ w.grownBy w' (some b) := by
  obtain ⟨D, hD, hS⟩ := h
  obtain ⟨w', hrun, hD', hg⟩ := hD.drop intLaw Try.underlying100 (keyI hx) ty
  refine ⟨w', hrun, ⟨_, hD', fun y hy => ?_⟩, hg.grown⟩
  by_cases c : y = x
  · subst c
    rw [Maps.has_del_same]
    exact ⟨⟨fun h => absurd h (by decide), fun h => absurd rfl h.2⟩, fun h => absurd rfl h.2⟩
  · rw [Maps.has_del_other (litI_ne c), Maps.atKey_del_other (litI_ne c)]
    exact ⟨⟨fun h => ⟨(hS y hy).1.1 h, c⟩, fun h => (hS y hy).1.2 h.1⟩, fun h => (hS y hy).2 h.1⟩
end Go.Proofs.Ythldophikcgkcaa.Y
