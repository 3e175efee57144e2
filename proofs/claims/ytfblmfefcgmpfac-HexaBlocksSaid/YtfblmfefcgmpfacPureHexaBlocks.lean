/- A block is told short, and comes back: blocks made of up to 40 bytes of a text, the front of one before the other's; no conditions. -/
import Derived.Test.YtfblmfefcgmpfacHexaLaws
import Derived.Test.YtfblmfefcgmpfacNum
namespace Go.Proofs.Ytfblmfefcgmpfac.Pure
open Go.RowKit Go.Proofs.Ytfblmfefcgmpfac.PHexa Go.Proofs.YtfblmfefcgmpfacW.PrintWords Go.Proofs.YtfblmfefcgmpfacW.PrintLast Go.Proofs.YtfblmfefcgmpfacW.PrintMore Go.Proofs.Ytfblmfefcgmpfac.X

theorem fill_loop (s : List UInt8) (hs : s.length ≤ 140737488355000) : ∀ (n i : Nat) (xs : List Int) (k : Nat), 32 - i ≤ n → i ≤ 32 → xs.length = 32 → n + 1 ≤ k → ∃ r : List UInt8, r.length = 32 ∧ tarnlaw08_Block.l0 k (bs s) xs (i : Int) = some (bs r) := by
  intro n
  induction n with
  | zero =>
    intro i xs k hn hi hx hk
    obtain ⟨k, rfl⟩ : ∃ m, k = m + 1 := ⟨k - 1, by omega⟩
    refine ⟨xs.map fun n => UInt8.ofNat n.toNat, by simpa using hx, ?_⟩
    unfold tarnlaw08_Block.l0
    rw [if_neg (by omega)]
    rfl
  | succ n ih =>
    intro i xs k hn hi hx hk
    obtain ⟨k, rfl⟩ : ∃ m, k = m + 1 := ⟨k - 1, by omega⟩
    unfold tarnlaw08_Block.l0
    by_cases h0 : i < 32
    · rw [if_pos (by omega)]
      by_cases h1 : s.length = 0
      · rw [if_neg (by rw [bs_size]; omega)]
        exact ⟨xs.map fun n => UInt8.ofNat n.toNat, by simpa using hx, rfl⟩
      · have e : ((bs s).size : Int) = s.length := rfl
        have h2 := Int.emod_nonneg (i : Int) (show (s.length : Int) ≠ 0 by omega)
        have h3 := Int.emod_lt_of_pos (i : Int) (show (0 : Int) < (s.length : Int) by omega)
        rw [e, Int.tmod_eq_emod_of_nonneg (by omega), if_pos (by omega), if_neg (by omega), if_pos h2, if_pos h3, if_pos (by omega), Pure.wrap_id (by omega) (by omega)]
        have e2 : (i : Int) + 1 = ((i + 1 : Nat) : Int) := by omega
        rw [e2]
        exact ih (i + 1) _ k (by omega) (by omega) (by simpa using hx) (by omega)
    · rw [if_neg (by omega)]
      exact ⟨xs.map fun n => UInt8.ofNat n.toNat, by simpa using hx, rfl⟩
theorem fill_is (s : List UInt8) (hs : s.length ≤ 140737488355000) (k : Nat) (hk : 40 ≤ k) : ∃ r : List UInt8, r.length = 32 ∧ tarnlaw08_Block.f k (bs s) = some (bs r) := by
  obtain ⟨r, hr, h⟩ := fill_loop s hs 32 0 (List.replicate 32 0) k (by omega) (by omega) (by simp) (by omega)
  refine ⟨r, hr, ?_⟩
  unfold tarnlaw08_Block.f
  rw [if_pos (by omega)]
  exact h

/-- No digit is a star. -/
theorem hexD_star : ∀ n : Fin 16, hexD n.val ≠ 42 := by decide
theorem hexL_star (l : List UInt8) : (hexL l).getLast? ≠ some 42 := by
  induction l with
  | nil => simp [hexL]
  | cons b l ih =>
    have hb := b.toNat_lt
    simp only [hexL]
    rw [List.getLast?_cons_cons]
    rcases hl : hexL l with _ | ⟨y, ys⟩
    · have := hexD_star ⟨b.toNat % 16, by omega⟩
      simpa using this
    · rw [hl] at ih
      rw [List.getLast?_cons_cons]
      exact ih
theorem cutS_put (l : List UInt8) : cutS (hexL l) = (hexL l, false) := by
  unfold cutS
  split
  · rename_i h; exact absurd h (hexL_star l)
  · rfl
theorem cutS_star (l : List UInt8) : cutS (hexL l ++ [42]) = (hexL l, true) := by
  unfold cutS
  simp

theorem block_back (s : List UInt8) (hs : s.length = 32) : ∃ t, blk s (low s s.length) = bs t ∧ t.length ≤ 100 ∧ longS t = (bs s, 0, 0) := by
  have hlow := low_le s s.length
  have hsame := low_same s s.length
  generalize low s s.length = m at hlow hsame
  have h1 : 1 ≤ m := hlow.2 (by omega)
  unfold blk
  by_cases hm : m = s.length
  · rw [if_pos hm]
    refine ⟨hexL s, rfl, by rw [hexL_length]; omega, ?_⟩
    unfold longS
    rw [cutS_put, hx_hexL]
    simp only
    have hno : ¬ (s = [] ∨ 32 < s.length ∨ False ∧ s.length < 32) := by
      rintro (h | h | ⟨_, h⟩)
      · subst h; simp at hs
      · omega
      · omega
    have hno2 : ¬ (s = [] ∨ 32 < s.length ∨ true ∧ s.length < 32) := by
      rintro (h | h | ⟨_, h⟩)
      · subst h; simp at hs
      · omega
      · omega
    have hno3 : ¬ (s = [] ∨ 32 < s.length ∨ True ∧ s.length < 32) := by simpa using hno2
    rw [if_neg hno3, hs]
    simp
  · rw [if_neg hm]
    have hl : (s.take m).length = m := by simp; omega
    refine ⟨hexL (s.take m) ++ [42], rfl, by rw [List.length_append, hexL_length, hl]; simp; omega, ?_⟩
    unfold longS
    rw [cutS_star, hx_hexL]
    simp only
    have hno : ¬ (s.take m = [] ∨ 32 < (s.take m).length ∨ true = false ∧ (s.take m).length < 32) := by
      rintro (h | h | ⟨h, _⟩)
      · rw [h] at hl; simp at hl; omega
      · omega
      · cases h
    rw [if_neg hno, hl]
    have hlast : (s.take m).getLastD 0 = s.getD (m - 1) 0 := by
      rw [List.getLastD_eq_getLast?, List.getLast?_eq_getElem?, hl, List.getElem?_take, List.getD_eq_getElem?_getD]
      rw [if_pos (by omega)]
    rw [hlast]
    have : s.take m ++ List.replicate (32 - m) (s.getD (m - 1) 0) = s := by
      apply List.ext_getElem
      · rw [List.length_append, hl, List.length_replicate]; omega
      · intro i hi hi2
        by_cases hc : i < m
        · rw [List.getElem_append_left (by omega), List.getElem_take]
        · rw [List.getElem_append_right (by omega), List.getElem_replicate]
          have := hsame i (by omega) hi2
          rw [← this]
          simp [hi2]
    rw [this]

theorem blocks_end (K : Nat) (hK : 1000 ≤ K) (s : List UInt8) (hs : s.length = 32) : tarnlaw44_HexaBlocks.j0 (K + 1) (bs s) = some true := by
  rw [tarnlaw44_HexaBlocks.j0]
  obtain ⟨t, ht, htl, hlong⟩ := block_back s hs
  rw [block_is s (by omega) K (by omega), ref_block_is s (by omega) K (by omega), Option.bind_some, ht, long_is t (by omega) K (by omega), hlong, Option.bind_some, awake_is K (by omega), Option.bind_some]
  simp

theorem HexaBlocks : tarnlaw44_HexaBlocks.Pure := by
  intro a0 a1 ha _
  obtain ⟨s, rfl⟩ : ∃ s, a0 = bs s := ⟨_, (bs_of a0).symm⟩
  rw [bs_size] at ha
  have hm : 0 ≤ mn ((bs s).size : Int) 40 ∧ mn ((bs s).size : Int) 40 ≤ s.length ∧ mn ((bs s).size : Int) 40 ≤ 40 := by rw [bs_size]; unfold mn; omega
  obtain ⟨K, hK⟩ : ∃ K : Nat, 1000 ≤ K := ⟨1000, Nat.le_refl _⟩
  refine ⟨K + 1, ?_⟩
  unfold tarnlaw44_HexaBlocks.f
  rw [if_pos hm.1, if_pos (by rw [bs_size]; exact hm.2.1)]
  obtain ⟨t, ht, htl⟩ : ∃ t, (bs s).extract 0 (mn ((bs s).size : Int) 40).toNat = bs t ∧ t.length ≤ 40 := ⟨_, bs_ext _ _ _, by simp; omega⟩
  obtain ⟨r, hr, hf⟩ := fill_is t (by omega) (K + 1) (by omega)
  rw [ht, hf, Option.bind_some, and_31]
  have hz : ((bs s).size : Int) = s.length := rfl
  have hzr : ((bs r).size : Int) = 32 := by rw [bs_size, hr]; rfl
  rw [hz, hzr]
  by_cases h0 : s.length = 0
  · rw [if_neg (by omega)]
    exact blocks_end K hK r hr
  · obtain ⟨r2, hr2, hf2⟩ := fill_is (List.take (1 - 0) (List.drop 0 s)) (by simp; omega) (K + 1) (by omega)
    have hzr2 : ((bs r2).size : Int) = 32 := by rw [bs_size, hr2]; rfl
    obtain ⟨j, hj⟩ : ∃ j : Nat, a1 % 32 = j ∧ j < 32 := ⟨(a1 % 32).toNat, by omega, by omega⟩
    rw [if_pos (by omega), hj.1, if_pos (by omega), if_pos (by omega), if_pos (by omega), if_pos (by omega), bs_ext, hf2, Option.bind_some, hzr2, if_pos (by omega), Int.toNat_natCast, bs_ext, bs_ext]
    rw [if_pos (by rw [bs_size, bs_size]; simp; omega), bs_app]
    exact blocks_end K hK _ (by simp [bs_size]; omega)
end Go.Proofs.Ytfblmfefcgmpfac.Pure
