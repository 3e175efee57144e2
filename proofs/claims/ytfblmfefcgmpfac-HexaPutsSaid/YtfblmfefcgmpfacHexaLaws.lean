/- What hexa.Long and hexa.Block compute, on lists of bytes. -/
import Derived.Test.YtfblmfefcgmpfacHexaPure
namespace Go.Proofs.Ytfblmfefcgmpfac.Pure
open Go.RowKit Go.Proofs.Ytfblmfefcgmpfac.PHexa Go.Proofs.YtfblmfefcgmpfacW.PrintWords Go.Proofs.YtfblmfefcgmpfacW.PrintLast Go.Proofs.YtfblmfefcgmpfacW.PrintMore Go.Proofs.Ytfblmfefcgmpfac.X

theorem cut_nil : strings_CutSuffix.f (bs []) (bs [42]) = some (bs [], false) := by decide +kernel
theorem cut_snoc (t : List UInt8) (x : UInt8) (h : t.length ≤ 140737488355000) : strings_CutSuffix.f (bs (t ++ [x])) (bs [42]) = some (if x = 42 then (bs t, true) else (bs (t ++ [x]), false)) := by
  have e0 : ((bs (t ++ [x])).size : Int) = t.length + 1 := by rw [bs_size]; simp
  have e1 : ((bs [42]).size : Int) = 1 := rfl
  have e2 : wrap64 ((t.length : Int) + 1 - 1) = t.length := by rw [wrap_id (by omega) (by omega)]; omega
  have e3 : (bs (t ++ [x])).extract t.length (bs (t ++ [x])).size = bs [x] := by rw [bs_ext]; simp [bs_size]
  have e4 : (bs (t ++ [x])).extract 0 t.length = bs t := by rw [bs_ext]; simp
  have hs : stringslite_HasSuffix.f (bs (t ++ [x])) (bs [42]) = some (decide (x = 42)) := by
    unfold stringslite_HasSuffix.f
    rw [e0, e1, if_pos (by omega), e2, if_pos (by omega), if_pos (by omega), Int.toNat_natCast, e3, bs_toList, bs_toList]
    congr 1
    by_cases hx : x = 42
    · subst hx; rfl
    · simp [hx]
  unfold strings_CutSuffix.f stringslite_CutSuffix.f
  rw [hs]
  simp only [Option.bind_some, decide_eq_true_eq]
  by_cases hx : x = 42
  · rw [if_pos hx, e0, e1, e2, if_pos (by omega), if_pos (by omega), Int.toNat_natCast, e4]
    simp [hx]
  · rw [if_neg hx]
    simp [hx]

/-- The part ahead of a star, and whether there is one. -/
def cutS (s : List UInt8) : List UInt8 × Bool := match s.getLast? with | some 42 => (s.dropLast, true) | _ => (s, false)
theorem cut_is (s : List UInt8) (h : s.length ≤ 140737488355000) : strings_CutSuffix.f (bs s) (bs [42]) = some (bs (cutS s).1, (cutS s).2) := by
  rcases List.eq_nil_or_concat s with rfl | ⟨t, x, rfl⟩
  · exact cut_nil
  · simp only [List.concat_eq_append] at *
    rw [cut_snoc t x (by simp at h; omega)]
    unfold cutS
    by_cases hx : x = 42
    · subst hx; simp
    · simp [hx]
theorem cutS_len (s : List UInt8) : (cutS s).1.length ≤ s.length := by
  unfold cutS
  split
  · simp
  · exact Nat.le_refl _

/-- What is told of a block that is told short. -/
def longS (s : List UInt8) : ByteArray × Int × Int := match hx (cutS s).1 0 with
  | .inr e => (bs [], (e : Int), 440)
  | .inl b => if b = [] ∨ 32 < b.length ∨ (cutS s).2 = false ∧ b.length < 32 then (bs [], (s.length : Int), 440) else (bs (b ++ List.replicate (32 - b.length) (b.getLastD 0)), 0, 0)

theorem rest_is (b : List UInt8) (h0 : b ≠ []) (h1 : b.length ≤ 32) :
    strings_Repeat.f ((bs b).extract (wrap64 (((bs b).size : Int) - 1)).toNat (bs b).size) (wrap64 (32 - ((bs b).size : Int))) = some (bs (List.replicate (32 - b.length) (b.getLastD 0))) := by
  rcases List.eq_nil_or_concat b with rfl | ⟨t, x, rfl⟩
  · exact absurd rfl h0
  · simp only [List.concat_eq_append] at *
    have e0 : ((bs (t ++ [x])).size : Int) = t.length + 1 := by rw [bs_size]; simp
    have hl : t.length + 1 ≤ 32 := by simpa using h1
    have e2 : wrap64 ((t.length : Int) + 1 - 1) = t.length := by rw [wrap_id (by omega) (by omega)]; omega
    have e3 : (bs (t ++ [x])).extract t.length (bs (t ++ [x])).size = bs [x] := by rw [bs_ext]; simp [bs_size]
    have e5 : wrap64 (32 - ((t.length : Int) + 1)) = ((32 - (t ++ [x]).length : Nat) : Int) := by rw [wrap_id (by omega) (by omega)]; simp; omega
    rw [e0, e2, Int.toNat_natCast, e3, e5]
    unfold strings_Repeat.f
    rw [if_pos (by omega), if_pos (by omega), if_pos (by rw [bs_size]; simp; omega)]
    have : Lib.repeatL [x] (32 - (t ++ [x]).length) = List.replicate (32 - (t ++ [x]).length) x := by
      have := Lib.repeatL_replicate x 1 (32 - (t ++ [x]).length)
      simpa using this
    rw [Int.toNat_natCast, bs_data, this]
    simp

theorem long_is (s : List UInt8) (hs : s.length ≤ 140737488354000) (k : Nat) (hk : s.length + 4 ≤ k) : hexa_Long.f k (bs s) = some (longS s) := by
  unfold hexa_Long.f
  have hc := cutS_len s
  have e42 : (⟨#[42]⟩ : ByteArray) = bs [42] := rfl
  rw [e42, cut_is s (by omega)]
  simp only [Option.bind_some]
  unfold longS
  rcases hh : hx (cutS s).1 0 with b | e
  · have hg : hexa_Get.f k (bs (cutS s).1) = some (bs b, 0, 0) := by rw [get_is _ (by omega) k (by omega), hh]; simp [told]
    rw [hg]
    simp only [Option.bind_some, if_true]
    have hb := hx_len _ _ _ hh
    have cz : ((bs b).toList = ([] : List UInt8)) ↔ b = [] := by rw [bs_toList]
    by_cases h0 : b = []
    · rw [if_pos (cz.mpr h0), if_pos (.inl h0), bs_size]
    · rw [if_neg (fun h => h0 (cz.mp h))]
      have hp : 0 < b.length := by cases b with | nil => exact absurd rfl h0 | cons => simp
      by_cases h1 : 32 < b.length
      · rw [if_pos (by rw [bs_size]; omega), if_pos (.inr (.inl h1)), bs_size]
      · rw [if_neg (by rw [bs_size]; omega)]
        have hr := rest_is b h0 (by omega)
        have hw : wrap64 (((bs b).size : Int) - 1) = (b.length : Int) - 1 := by rw [bs_size, wrap_id (by omega) (by omega)]
        have go : (if 0 ≤ wrap64 (((bs b).size : Int) - 1) then (if wrap64 (((bs b).size : Int) - 1) ≤ ((bs b).size : Int) then (strings_Repeat.f ((bs b).extract (wrap64 (((bs b).size : Int) - 1)).toNat (bs b).size) (wrap64 (32 - ((bs b).size : Int)))).bind fun t120 => (if (bs b).size + t120.size ≤ 9223372036854775807 then some (bs b ++ t120, (0 : Int), (0 : Int)) else none) else none) else none) = some (bs (b ++ List.replicate (32 - b.length) (b.getLastD 0)), 0, 0) := by
          rw [hr, hw, if_pos (by omega), if_pos (by rw [bs_size]; omega)]
          simp only [Option.bind_some]
          rw [if_pos (by rw [bs_size, bs_size]; simp; omega), bs_app]
        rcases hst : (cutS s).2 with _ | _
        · simp only [Bool.false_eq_true, if_false]
          by_cases h2 : b.length < 32
          · rw [if_pos (by rw [bs_size]; omega), if_pos (.inr (.inr ⟨by simp, h2⟩)), bs_size]
          · rw [if_neg (by rw [bs_size]; omega), go, if_neg (by rintro (h | h | ⟨_, h⟩); exact h0 h; exact h1 h; exact h2 h)]
        · simp only [if_true]
          rw [go, if_neg (by rintro (h | h | ⟨h, _⟩); exact h0 h; exact h1 h; simp at h)]
  · have hg : hexa_Get.f k (bs (cutS s).1) = some (bs [], (e : Int), 440) := by rw [get_is _ (by omega) k (by omega), hh]; simp [told]
    rw [hg]
    simp

/-- Up to where the last byte is not the one over and over. -/
def low (s : List UInt8) : Nat → Nat
  | 0 => 0
  | 1 => 1
  | n + 2 => if s.getD (n + 1) 0 = s.getD n 0 then low s (n + 1) else n + 2
def blk (s : List UInt8) (m : Nat) : ByteArray := if m = s.length then bs (hexL s) else bs (hexL (s.take m) ++ [42])
theorem low_le (s : List UInt8) : ∀ n, low s n ≤ n ∧ (1 ≤ n → 1 ≤ low s n)
  | 0 => ⟨Nat.le_refl _, fun h => h⟩
  | 1 => ⟨Nat.le_refl _, fun _ => Nat.le_refl _⟩
  | n + 2 => by
    simp only [low]
    split
    · have := low_le s (n + 1); omega
    · omega
theorem low_same (s : List UInt8) : ∀ n j, low s n ≤ j → j < n → s.getD j 0 = s.getD (low s n - 1) 0
  | 0, _, _, h => absurd h (Nat.not_lt_zero _)
  | 1, j, h, h2 => by simp only [low] at h; omega
  | n + 2, j, h, h2 => by
    simp only [low] at h ⊢
    split at h
    · rename_i he
      rw [if_pos he]
      by_cases hj : j = n + 1
      · subst hj
        rw [he]
        by_cases hn : low s (n + 1) ≤ n
        · exact low_same s (n + 1) n hn (by omega)
        · have := (low_le s (n + 1)).1
          have : low s (n + 1) = n + 1 := by omega
          rw [this]
          simp
      · exact low_same s (n + 1) j h (by omega)
    · omega

theorem bt_get (s : List UInt8) (i : Nat) : bt (bs s) (i : Int) = ((s.getD i 0).toNat : Int) := by
  by_cases h : i < s.length
  · rw [bt_bs s i h]; simp [h]
  · unfold bt
    rw [dif_neg (by simpa [bs_size] using h)]
    simp [List.getD_eq_getElem?_getD, List.getElem?_eq_none (Nat.le_of_not_lt h)]
theorem byte_eq (a b : UInt8) : ((a.toNat : Int) = (b.toNat : Int)) ↔ a = b := by
  constructor
  · intro h; exact UInt8.toNat_inj.mp (by omega)
  · rintro rfl; rfl
theorem star_is (s : List UInt8) (m : Nat) : (bs s).extract 0 ((m : Int)).toNat = bs (s.take m) := by rw [bs_ext]; simp

theorem block_end (s : List UInt8) (hs : s.length ≤ 1000000) (m : Nat) (hm : m ≤ s.length) (k : Nat) : hexa_Block.j1 (k + 1) (bs s) (m : Int) = some (blk s m) := by
  simp only [hexa_Block.j1]
  unfold blk
  by_cases h : m = s.length
  · rw [if_pos (by rw [bs_size]; omega), if_pos h, put_is s (by omega)]; rfl
  · rw [if_neg (by rw [bs_size]; omega), if_neg h, if_pos (by omega), if_pos (by rw [bs_size]; omega), star_is, put_is _ (by simp; omega)]
    simp only [Option.bind_some]
    rw [if_pos (by rw [bs_size, hexL_length]; simp; omega)]
    exact congrArg some (bs_app _ [42])
theorem ref_block_end (s : List UInt8) (hs : s.length ≤ 1000000) (m : Nat) (hm : m ≤ s.length) (k : Nat) : tarnref44_Block.j1 (k + 1) (bs s) (m : Int) = some (blk s m) := by
  simp only [tarnref44_Block.j1]
  unfold blk
  by_cases h : m = s.length
  · rw [if_neg (by rw [bs_size]; omega), if_pos h, ref_put_is s (by omega)]; rfl
  · rw [if_pos (by rw [bs_size]; omega), if_neg h, if_pos (by omega), if_pos (by rw [bs_size]; omega), star_is, ref_put_is _ (by simp; omega)]
    simp only [Option.bind_some]
    rw [if_pos (by rw [bs_size, hexL_length]; simp; omega)]
    exact congrArg some (bs_app _ [42])
theorem block_loop (s : List UInt8) (hs : s.length ≤ 1000000) : ∀ (n k : Nat), n ≤ s.length → n + 2 ≤ k → hexa_Block.l0 k (bs s) (n : Int) = some (blk s (low s n)) ∧ tarnref44_Block.l0 k (bs s) (n : Int) = some (blk s (low s n))
  | 0, k, hn, hk => by
    obtain ⟨k, rfl⟩ : ∃ m, k = m + 2 := ⟨k - 2, by omega⟩
    constructor
    · unfold hexa_Block.l0; rw [if_neg (by omega)]; exact block_end s hs 0 hn _
    · unfold tarnref44_Block.l0; rw [if_neg (by omega)]; exact ref_block_end s hs 0 hn _
  | 1, k, hn, hk => by
    obtain ⟨k, rfl⟩ : ∃ m, k = m + 2 := ⟨k - 2, by omega⟩
    constructor
    · unfold hexa_Block.l0; rw [if_neg (by omega)]; exact block_end s hs 1 hn _
    · unfold tarnref44_Block.l0; rw [if_neg (by omega)]; exact ref_block_end s hs 1 hn _
  | n + 2, k, hn, hk => by
    obtain ⟨k, rfl⟩ : ∃ m, k = m + 2 := ⟨k - 2, by omega⟩
    have ih := block_loop s hs (n + 1) (k + 1) (by omega) (by omega)
    have e1 : wrap64 (((n + 2 : Nat) : Int) - 1) = ((n + 1 : Nat) : Int) := by rw [wrap_id (by omega) (by omega)]; omega
    have e2 : wrap64 (((n + 2 : Nat) : Int) - 2) = ((n : Nat) : Int) := by rw [wrap_id (by omega) (by omega)]; omega
    have hb := byte_eq (s.getD (n + 1) 0) (s.getD n 0)
    constructor
    · unfold hexa_Block.l0
      rw [if_pos (by omega), e1, e2, if_pos (by omega), if_pos (by rw [bs_size]; omega), if_pos (by omega), if_pos (by rw [bs_size]; omega), bt_get, bt_get]
      simp only [low]
      by_cases h : s.getD (n + 1) 0 = s.getD n 0
      · rw [if_pos (hb.mpr h), if_pos h]; exact ih.1
      · rw [if_neg (fun z => h (hb.mp z)), if_neg h]; exact block_end s hs (n + 2) hn _
    · unfold tarnref44_Block.l0
      rw [if_pos (by omega), e1, e2, if_pos (by omega), if_pos (by rw [bs_size]; omega), if_pos (by omega), if_pos (by rw [bs_size]; omega), bt_get, bt_get]
      simp only [low]
      by_cases h : s.getD (n + 1) 0 = s.getD n 0
      · rw [if_pos (hb.mpr h), if_pos h]; exact ih.2
      · rw [if_neg (fun z => h (hb.mp z)), if_neg h]; exact ref_block_end s hs (n + 2) hn _
theorem block_is (s : List UInt8) (hs : s.length ≤ 1000000) (k : Nat) (hk : s.length + 2 ≤ k) : hexa_Block.f k (bs s) = some (blk s (low s s.length)) := (block_loop s hs s.length k (Nat.le_refl _) hk).1
theorem ref_block_is (s : List UInt8) (hs : s.length ≤ 1000000) (k : Nat) (hk : s.length + 2 ≤ k) : tarnref44_Block.f k (bs s) = some (blk s (low s s.length)) := (block_loop s hs s.length k (Nat.le_refl _) hk).2

theorem awake_at : tarnlaw44_awake.f 60 = some true := by decide +kernel
theorem awake_is (k : Nat) (hk : 60 ≤ k) : tarnlaw44_awake.f k = some true := at_rounds tarnlaw44_awake.mono hk awake_at
end Go.Proofs.Ytfblmfefcgmpfac.Pure
