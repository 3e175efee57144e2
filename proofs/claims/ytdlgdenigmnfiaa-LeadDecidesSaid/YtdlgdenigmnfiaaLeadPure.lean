/- The middle one of three: as many as two are not less. -/
import Derived.Test.YtdlgdenigmnfiaaDecided
namespace Go.Proofs.Ytdlgdenigmnfiaa.Y
set_option linter.unusedVariables false
set_option linter.unusedSimpArgs false
def cnt (m : Fin 3 → Int) (n : Int) : Nat := (if n ≤ m 0 then 1 else 0) + (if n ≤ m 1 then 1 else 0) + (if n ≤ m 2 then 1 else 0)
theorem mid_iff (m : Fin 3 → Int) (n : Int) : n ≤ mid3 m ↔ 2 ≤ cnt m n := by
  have hp : (([m 0, m 1, m 2] : List Int).mergeSort fun x y => decide (x ≤ y)).Perm [m 0, m 1, m 2] := List.mergeSort_perm _ _
  have hs := List.pairwise_mergeSort (le := fun (x y : Int) => decide (x ≤ y)) (fun a b c h1 h2 => by simp at *; omega) (fun a b => by simp; omega) ([m 0, m 1, m 2] : List Int)
  have hc := hp.countP_eq (fun x => decide (n ≤ x))
  have hl := hp.length_eq
  unfold mid3 cnt
  generalize (([m 0, m 1, m 2] : List Int).mergeSort fun x y => decide (x ≤ y)) = s at hs hc hl ⊢
  match s, hl with
  | [a, b, c], _ =>
    simp only [List.pairwise_cons, List.mem_cons, List.not_mem_nil, or_false, forall_eq_or_imp, forall_eq, decide_eq_true_eq] at hs
    obtain ⟨⟨h1, h2⟩, h3, _⟩ := hs
    simp only [List.countP_cons, List.countP_nil, decide_eq_true_eq] at hc
    show n ≤ b ↔ _
    have e : ∀ x : Int, ((if n ≤ x then 1 else 0 : Nat) = 1 ∧ n ≤ x) ∨ ((if n ≤ x then 1 else 0 : Nat) = 0 ∧ ¬ n ≤ x) := fun x => by by_cases h : n ≤ x <;> simp [h]
    have ea := e a
    have eb := e b
    have ec := e c
    omega
theorem mid_eq (m : Fin 3 → Int) (v : Int) (h1 : 2 ≤ cnt m v) (h2 : ¬ 2 ≤ cnt m (v + 1)) : mid3 m = v := by
  have a := (mid_iff m v).2 h1
  have b : ¬ (v + 1 ≤ mid3 m) := fun h => h2 ((mid_iff m (v + 1)).1 h)
  omega
end Go.Proofs.Ytdlgdenigmnfiaa.Y
