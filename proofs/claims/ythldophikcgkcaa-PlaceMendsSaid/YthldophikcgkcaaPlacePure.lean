/- What conf.Chains, conf.Mirrors and the law's 'has' compute. -/
import Derived.Test.YthldophikcgkcaaPPlacex3
import Derived.Test.YthldophikcgkcaaConfPure
namespace Go.Proofs.Ythldophikcgkcaa.X
open Go.RowKit Go.Proofs.Ythldophikcgkcaa.PPlace Go.Proofs.YthldophikcgkcaaW.PrintWords Go.Proofs.YthldophikcgkcaaW.PrintLast Go.Proofs.YthldophikcgkcaaW.PrintMore

theorem index_l0 (n : Int) : ∀ (s p : List Int), (p ++ s).length ≤ 1000 → ∀ k, s.length + 1 ≤ k → ∃ r : Int, slices_Index_int_int.l0 k (p ++ s) n ((p ++ s).length : Int) (p.length : Int) = some r ∧ decide (r ≥ 0) = hasB n s := by
  intro s
  induction s with
  | nil =>
    intro p hp k hk
    obtain ⟨k, rfl⟩ : ∃ q, k = q + 1 := ⟨k - 1, by simp at hk; omega⟩
    rw [slices_Index_int_int.l0, if_neg (by simp)]
    exact ⟨-1, rfl, rfl⟩
  | cons x s ih =>
    intro p hp k hk
    obtain ⟨k, rfl⟩ : ∃ q, k = q + 1 := ⟨k - 1, by simp at hk; omega⟩
    have hp' : p.length + (s.length + 1) ≤ 1000 := by simpa using hp
    rw [slices_Index_int_int.l0, if_pos (by simp; omega), if_pos (by omega), if_pos (by simp; omega), rd_mid]
    by_cases c : n = x
    · rw [if_pos c]
      exact ⟨_, rfl, by rw [decide_eq_true (by omega)]; simp [hasB, c]⟩
    · obtain ⟨r, h1, h2⟩ := ih (p ++ [x]) (by simp; omega) k (by simp at hk; omega)
      rw [len_snoc, ← app_cons] at h1
      rw [if_neg c, succ_wrap _ (by omega)]
      have c' : ¬ x = n := fun h => c h.symm
      exact ⟨r, h1, by rw [h2]; simp [hasB, c']⟩
theorem contains_f (n : Int) (l : List Int) (hl : l.length ≤ 1000) (k : Nat) (hk : l.length + 1 ≤ k) : slices_Contains_int_int.f k l n = some (hasB n l) := by
  obtain ⟨r, h1, h2⟩ := index_l0 n l [] (by simpa using hl) k hk
  unfold slices_Contains_int_int.f slices_Index_int_int.f
  have h1' : slices_Index_int_int.l0 k l n (l.length : Int) 0 = some r := h1
  rw [h1', Option.bind_some, h2]
theorem mirrors_f (a b c : Int) (m h : List Int) (n : Int) (hm : m.length ≤ 1000) (k : Nat) (hk : m.length + 1 ≤ k) : conf_Mirrors.f k a b c m h n = some (hasB n m) := by
  unfold conf_Mirrors.f
  rw [contains_f n m hm k hk, Option.bind_some]
theorem chains_f (a b c : Int) (m h : List Int) (n : Int) (hm : h.length ≤ 1000) (k : Nat) (hk : h.length + 1 ≤ k) : conf_Chains.f k a b c m h n = some (hasB n h) := by
  unfold conf_Chains.f
  rw [contains_f n h hm k hk, Option.bind_some]
end Go.Proofs.Ythldophikcgkcaa.X
