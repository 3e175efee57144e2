/- tarnlaw40.near: what it tells: few uses, of small values, at early times. -/
import Derived.Test.YthldophikcgkcaaPSrx1
import Derived.Test.YthldophikcgkcaaSearchPure
import Derived.Test.YthldophikcgkcaaNum
namespace Go.Proofs.Ythldophikcgkcaa.Y
set_option linter.unusedVariables false
set_option linter.unusedSimpArgs false
open Go.RowKit Go.Proofs.YthldophikcgkcaaW.PrintWords Go.Proofs.YthldophikcgkcaaW.PrintLast Go.Proofs.YthldophikcgkcaaW.PrintMore Go.Proofs.Ythldophikcgkcaa.X Go.Proofs.Ythldophikcgkcaa.PSr

/-- A use as near makes it. -/
def NearU (x : U) : Prop := x.f1.size ≤ 1 ∧ 0 ≤ x.f2 ∧ x.f2 ≤ 15
theorem and15_bounds (n : Int) : 0 ≤ Go.bits .and .i64 n 15 ∧ Go.bits .and .i64 n 15 ≤ 15 := by
  rw [and_15]
  omega
theorem str_one (n : Int) : (strOfNums [n]).size ≤ 1 := by
  first | exact Nat.le_refl _ | (simp [strOfNums, ByteArray.size]) | (unfold strOfNums; simp [ByteArray.size])
theorem mk_near (b : Bool) (n m t : Int) : NearU ⟨b, strOfNums [n], Go.bits .and .i64 m 15, t⟩ := ⟨str_one n, (and15_bounds m).1, (and15_bounds m).2⟩
theorem near_l0 (l : List U) (once : Bool) : ∀ (n i : Nat) (acc : List U), 7 - i = n → i ≤ 7 → acc.length = i → (∀ x ∈ acc, NearU x) → ∀ k, 4 * n + 3 ≤ k →
    ∃ r, tarnlaw40_near.l0 k l once acc (i : Int) = some r ∧ r.length ≤ 7 ∧ ∀ x ∈ r, NearU x := by
  intro n
  induction n with
  | zero =>
    intro i acc h1 h2 h3 h4 k hk
    obtain rfl : i = 7 := by omega
    obtain ⟨k, rfl⟩ : ∃ q, k = q + 1 := ⟨k - 1, by omega⟩
    obtain ⟨k, rfl⟩ : ∃ q, k = q + 1 := ⟨k - 1, by omega⟩
    rw [tarnlaw40_near.l0]
    split
    · rw [decide_eq_false (by decide), tarnlaw40_near.j1, if_neg (by decide)]
      exact ⟨acc, rfl, by omega, h4⟩
    · rw [tarnlaw40_near.j1, if_neg (by decide)]
      exact ⟨acc, rfl, by omega, h4⟩
  | succ n ih =>
    intro i acc h1 h2 h3 h4 k hk
    obtain ⟨k, rfl⟩ : ∃ q, k = q + 4 := ⟨k - 4, by omega⟩
    have hi7 : (i : Int) < 7 := by omega
    have hi0 : (0 : Int) ≤ (i : Int) := by omega
    have hw : wrap64 ((i : Int) + 1) = ((i + 1 : Nat) : Int) := by rw [wrap_id (by omega) (by omega)]; omega
    rw [tarnlaw40_near.l0]
    by_cases c1 : (i : Int) < (l.length : Int)
    · rw [if_pos c1, decide_eq_true hi7]
      have step : ∀ (b0 : Bool) (v0 : ByteArray) (m t : Int), (∃ r, tarnlaw40_near.j2 (k + 2) l once acc (i : Int) b0 v0 (Go.bits .and .i64 m 15) t = some r ∧ r.length ≤ 7 ∧ ∀ y ∈ r, NearU y) := by
        intro b0 v0 m t
        have hlen : acc.length < 3518437208883 := by omega
        have fin : ∀ y : U, NearU y → ∃ r, tarnlaw40_near.l0 k l once (acc ++ [y]) (wrap64 ((i : Int) + 1)) = some r ∧ r.length ≤ 7 ∧ ∀ y ∈ r, NearU y := by
          intro y hy
          rw [hw]
          refine ih (i + 1) (acc ++ [y]) (by omega) (by omega) (by simp; omega) (fun z hz => ?_) k (by omega)
          rcases List.mem_append.1 hz with h | h
          · exact h4 z h
          · rw [List.mem_singleton] at h
            rw [h]; exact hy
        rw [tarnlaw40_near.j2, if_pos hi0, if_pos c1, Option.bind_some]
        cases b0 with
        | true =>
          rw [if_pos rfl, tarnlaw40_near.j3]
          cases once with
          | true => rw [if_pos rfl, Option.bind_some, if_pos rfl, if_pos hlen]; exact fin _ (mk_near _ _ _ _)
          | false => rw [if_neg (by decide), if_pos rfl, if_pos hlen]; exact fin _ (mk_near _ _ _ _)
        | false =>
          rw [if_neg (by decide), tarnlaw40_near.j3, if_neg (by decide), if_neg (by decide)]
          cases once with
          | true => rw [if_pos rfl, if_pos hi0, if_pos c1, if_pos hlen]; exact fin _ (mk_near _ _ _ _)
          | false => rw [if_neg (by decide), if_pos hlen]; exact fin _ (mk_near _ _ _ _)
      rw [tarnlaw40_near.j1, if_pos rfl, if_pos hi0, if_pos c1]
      split
      · exact step _ _ _ _
      · exact step _ _ _ _
    · rw [if_neg c1, tarnlaw40_near.j1, if_neg (by decide)]
      exact ⟨acc, rfl, by omega, h4⟩
theorem near_f (l : List U) (once : Bool) : ∃ r, tarnlaw40_near.f 100 l once = some r ∧ r.length ≤ 7 ∧ ∀ x ∈ r, NearU x :=
  near_l0 l once 7 0 [] (by omega) (by omega) rfl (fun x hx => absurd hx (List.not_mem_nil)) 100 (by omega)
theorem gU_mem {l : List U} {k : Nat} (h : k < l.length) : gU l k ∈ l := by
  unfold gU
  rw [List.getD_eq_getElem?_getD, List.getElem?_eq_getElem h]
  exact List.getElem_mem h
end Go.Proofs.Ythldophikcgkcaa.Y
