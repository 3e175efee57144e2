/- Orders of uses: from which points there is one. -/
import Derived.Test.YthldophikcgkcaaPSrx0
namespace Go.Proofs.Ythldophikcgkcaa.Y
set_option linter.unusedVariables false
set_option linter.unusedSimpArgs false
open Go.RowKit Go.Proofs.YthldophikcgkcaaW.PrintWords Go.Proofs.YthldophikcgkcaaW.PrintLast Go.Proofs.YthldophikcgkcaaW.PrintMore Go.Proofs.Ythldophikcgkcaa.X Go.Proofs.Ythldophikcgkcaa.PSr

abbrev U := S40
def gU (l : List U) (k : Nat) : U := l.getD k z40
theorem rd_gU (l : List U) (k : Nat) : rd_T40 l (k : Int) = gU l k := by
  unfold rd_T40 gU
  rw [Int.toNat_natCast]
/-- All that ended are done. -/
def AllP (l : List U) (d : Nat) : Prop := ∀ k, k < l.length → d.testBit k = true ∨ (gU l k).f3 = 1073741824
/-- A use can be the next one: none that is not done had ended ahead of its beginning. -/
def MayP (l : List U) (d i : Nat) : Prop := ∀ k, k < l.length → k = i ∨ d.testBit k = true ∨ (gU l i).f2 ≤ (gU l k).f3
def nxt (x : U) (v : ByteArray) : ByteArray := if x.f0 = true then x.f1 else v
/-- There is an order from here on. -/
inductive Ord (l : List U) : Nat → ByteArray → Prop where
  | stop (d : Nat) (v : ByteArray) (h : AllP l d) : Ord l d v
  | step (d : Nat) (v : ByteArray) (i : Nat) (hi : i < l.length) (hb : d.testBit i = false) (hm : MayP l d i) (hv : (gU l i).f0 = true ∨ (gU l i).f1 = v) (h : Ord l (d ||| 2 ^ i) (nxt (gU l i) v)) : Ord l d v
def StepP (l : List U) (d : Nat) (v : ByteArray) (i : Nat) : Prop := d.testBit i = false ∧ MayP l d i ∧ ((gU l i).f0 = true ∨ (gU l i).f1 = v) ∧ Ord l (d ||| 2 ^ i) (nxt (gU l i) v)
theorem ord_iff (l : List U) (d : Nat) (v : ByteArray) : Ord l d v ↔ AllP l d ∨ ∃ i, i < l.length ∧ StepP l d v i := by
  constructor
  · intro h
    cases h with
    | stop _ _ h => exact Or.inl h
    | step _ _ i hi hb hm hv h => exact Or.inr ⟨i, hi, hb, hm, hv, h⟩
  · rintro (h | ⟨i, hi, hb, hm, hv, h⟩)
    · exact .stop d v h
    · exact .step d v i hi hb hm hv h
def Sub (d e : Nat) : Prop := ∀ k, d.testBit k = true → e.testBit k = true
theorem sub_refl (d : Nat) : Sub d d := fun _ h => h
theorem sub_trans {a b c : Nat} (h1 : Sub a b) (h2 : Sub b c) : Sub a c := fun k h => h2 k (h1 k h)
theorem sub_or (d i : Nat) : Sub d (d ||| 2 ^ i) := fun k h => by rw [Nat.testBit_or, h, Bool.true_or]
theorem not_sub {d i : Nat} (h : d.testBit i = false) : ¬ Sub (d ||| 2 ^ i) d := fun hs => by
  have := hs i (by rw [Nat.testBit_or, Nat.testBit_two_pow_self, Bool.or_true])
  rw [h] at this
  exact absurd this (by decide)
theorem or_lt {n d i : Nat} (hd : d < 2 ^ n) (hi : i < n) : d ||| 2 ^ i < 2 ^ n := Nat.or_lt_two_pow hd (Nat.pow_lt_pow_right (by decide) hi)
theorem lt_or {d i : Nat} (h : d.testBit i = false) : d < d ||| 2 ^ i := by
  have h1 : d ≤ d ||| 2 ^ i := Nat.left_le_or
  rcases Nat.lt_or_ge d (d ||| 2 ^ i) with h2 | h2
  · exact h2
  · have h3 : d ||| 2 ^ i = d := Nat.le_antisymm h2 h1
    exact absurd (by rw [h3]; exact sub_refl d) (not_sub h)
/-- One use more, a writing that never ended: no order is lost. -/
theorem gU_app (l : List U) (y : U) (k : Nat) (hk : k < l.length) : gU (l ++ [y]) k = gU l k := by
  unfold gU
  rw [List.getD_eq_getElem?_getD, List.getD_eq_getElem?_getD, List.getElem?_append_left hk]
theorem gU_last (l : List U) (y : U) : gU (l ++ [y]) l.length = y := by
  unfold gU
  rw [List.getD_eq_getElem?_getD, List.getElem?_append_right (Nat.le_refl _)]
  simp
theorem ord_more (l : List U) (y : U) (hy : y.f3 = 1073741824) (hl : ∀ k, k < l.length → (gU l k).f2 ≤ 1073741824) {d : Nat} {v : ByteArray} (h : Ord l d v) : Ord (l ++ [y]) d v := by
  induction h with
  | stop d v h =>
    refine .stop d v fun k hk => ?_
    by_cases hkl : k < l.length
    · rw [gU_app l y k hkl]
      exact h k hkl
    · obtain rfl : k = l.length := by simp at hk; omega
      rw [gU_last]
      exact Or.inr hy
  | step d v i hi hb hm hv _ ih =>
    have e := gU_app l y i hi
    refine .step d v i (by simp; omega) hb (fun k hk => ?_) (by rw [e]; exact hv) (by rw [e]; exact ih)
    rw [e]
    by_cases hkl : k < l.length
    · rw [gU_app l y k hkl]
      exact hm k hkl
    · obtain rfl : k = l.length := by simp at hk; omega
      rw [gU_last, hy]
      exact Or.inr (Or.inr (hl i hi))
theorem bit_test (d k : Nat) : d / 2 ^ k % 2 = if d.testBit k = true then 1 else 0 := by
  rw [Nat.testBit_eq_decide_div_mod_eq]
  by_cases h : d / 2 ^ k % 2 = 1
  · rw [decide_eq_true h, if_pos rfl, h]
  · rw [decide_eq_false h, if_neg (by decide)]
    omega
end Go.Proofs.Ythldophikcgkcaa.Y
