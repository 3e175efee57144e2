/- What is no block, told short or long, is told so, and where; what is one has its bytes, the last one over and over: digits of up to 40 bytes with up to 3 bytes behind, with or without a star; no conditions. -/
import Derived.Test.YtfblmfefcgmpfacHexaLaws
import Derived.Test.YtfblmfefcgmpfacNum
namespace Go.Proofs.Ytfblmfefcgmpfac.Pure
open Go.RowKit Go.Proofs.Ytfblmfefcgmpfac.PHexa Go.Proofs.YtfblmfefcgmpfacW.PrintWords Go.Proofs.YtfblmfefcgmpfacW.PrintLast Go.Proofs.YtfblmfefcgmpfacW.PrintMore Go.Proofs.Ytfblmfefcgmpfac.X

theorem end_bad (K : Nat) (hK : 1000 ≤ K) (z b : List UInt8) : tarnlaw44_HexaLong.j3 (K + 1) (bs z) (bs []) (z.length : Int) 440 (bs b) true = some true := by
  rw [tarnlaw44_HexaLong.j3, if_pos rfl, awake_is K (by omega), Option.bind_some, if_pos rfl, if_pos rfl, if_pos (by rw [bs_size]), bs_toList]
  rfl
theorem end_good (K : Nat) (hK : 1000 ≤ K) (z b : List UInt8) (h0 : b ≠ []) (h1 : b.length ≤ 32) :
    tarnlaw44_HexaLong.j3 (K + 1) (bs z) (bs (b ++ List.replicate (32 - b.length) (b.getLastD 0))) 0 0 (bs b) false = some true := by
  have hp : 0 < b.length := by cases b with | nil => exact absurd rfl h0 | cons => simp
  have hl : (b ++ List.replicate (32 - b.length) (b.getLastD 0)).length = 32 := by simp; omega
  have hlast : b.getLastD 0 = b.getD (b.length - 1) 0 := by rw [List.getLastD_eq_getLast?, List.getLast?_eq_getElem?, List.getD_eq_getElem?_getD]
  have h31 : (b ++ List.replicate (32 - b.length) (b.getLastD 0)).getD 31 0 = b.getD (b.length - 1) 0 := by
    rw [List.getD_eq_getElem?_getD]
    by_cases hc : 31 < b.length
    · rw [List.getElem?_append_left hc]
      have : b.length - 1 = 31 := by omega
      rw [this, List.getD_eq_getElem?_getD]
    · rw [List.getElem?_append_right (by omega), List.getElem?_replicate, if_pos (by omega), hlast]
      rfl
  have hw : wrap64 (((bs b).size : Int) - 1) = ((b.length - 1 : Nat) : Int) := by rw [bs_size, Pure.wrap_id (by omega) (by omega)]; omega
  have hcut : (bs (b ++ List.replicate (32 - b.length) (b.getLastD 0))).extract 0 (bs b).size = bs b := by rw [bs_ext]; simp [bs_size]
  have hsz : ((bs (b ++ List.replicate (32 - b.length) (b.getLastD 0))).size : Int) = 32 := by rw [bs_size, hl]; rfl
  have e31 : (31 : Int) = ((31 : Nat) : Int) := rfl
  rw [tarnlaw44_HexaLong.j3, if_neg (by decide), awake_is K (by omega), Option.bind_some, if_pos rfl, if_pos rfl, hsz, if_pos rfl, if_pos (by omega), if_pos (by rw [bs_size]; omega), hcut, if_pos rfl, if_pos (by omega), hw, if_pos (by omega), if_pos (by rw [bs_size]; omega)]
  rw [e31, bt_get, bt_get, h31]
  simp

theorem mid (K : Nat) (hK : 1000 ≤ K) (z : List UInt8) (hz : z.length ≤ 200) :
    tarnlaw44_HexaLong.j2 (K + 2) (bs z) (longS z).1 (longS z).2.1 (longS z).2.2 (bs (cutS z).1) (cutS z).2 = some true := by
  have hc := cutS_len z
  rw [tarnlaw44_HexaLong.j2]
  rcases hh : hx (cutS z).1 0 with b | e
  · have h2 : tarnref44_Get.f (K + 1) (bs (cutS z).1) = some (bs b, -1) := by rw [ref_get_is _ (by omega) (K + 1) (by omega), hh]; simp [toldR]
    have hneg : ¬ ((-1 : Int) ≥ 0) := by omega
    rw [h2, Option.bind_some, if_neg hneg]
    have hbad : (b = [] ∨ 32 < b.length ∨ (cutS z).2 = false ∧ b.length < 32) → longS z = (bs [], (z.length : Int), 440) := by
      intro h; unfold longS; rw [hh]; exact if_pos h
    have hgood : ¬ (b = [] ∨ 32 < b.length ∨ (cutS z).2 = false ∧ b.length < 32) → longS z = (bs (b ++ List.replicate (32 - b.length) (b.getLastD 0)), 0, 0) := by
      intro h; unfold longS; rw [hh]; exact if_neg h
    by_cases h0 : b = []
    · have hz0 : (bs b, (-1 : Int)).1.toList = [] := by show (bs b).toList = []; rw [bs_toList]; exact h0
      rw [if_pos hz0, hbad (.inl h0)]
      exact end_bad K hK z b
    · have hz0 : ¬ ((bs b, (-1 : Int)).1.toList = []) := by show ¬ ((bs b).toList = []); rw [bs_toList]; exact h0
      rw [if_neg hz0]
      by_cases h1 : 32 < b.length
      · rw [if_pos (by show ((bs b).size : Int) > 32; rw [bs_size]; omega), hbad (.inr (.inl h1))]
        exact end_bad K hK z b
      · rw [if_neg (by show ¬ (((bs b).size : Int) > 32); rw [bs_size]; omega)]
        rcases hst : (cutS z).2 with _ | _
        · rw [if_neg (by decide)]
          by_cases h3 : b.length < 32
          · have hd : decide (((bs b, (-1 : Int)).1.size : Int) < 32) = true := decide_eq_true (by show ((bs b).size : Int) < 32; rw [bs_size]; omega)
            rw [hd, hbad (.inr (.inr ⟨hst, h3⟩))]
            exact end_bad K hK z b
          · have hd : decide (((bs b, (-1 : Int)).1.size : Int) < 32) = false := decide_eq_false (by show ¬ (((bs b).size : Int) < 32); rw [bs_size]; omega)
            rw [hd, hgood (by
              rintro (h | h | ⟨_, h⟩)
              · exact h0 h
              · exact h1 h
              · exact h3 h)]
            exact end_good K hK z b h0 (by omega)
        · rw [if_pos rfl, hgood (by
            rintro (h | h | ⟨h, _⟩)
            · exact h0 h
            · exact h1 h
            · rw [hst] at h; cases h)]
          exact end_good K hK z b h0 (by omega)
  · have h2 : tarnref44_Get.f (K + 1) (bs (cutS z).1) = some (bs [], (e : Int)) := by rw [ref_get_is _ (by omega) (K + 1) (by omega), hh]; simp [toldR]
    have hpos : (e : Int) ≥ 0 := by omega
    have hL : longS z = (bs [], (e : Int), 440) := by unfold longS; rw [hh]
    rw [h2, Option.bind_some, if_pos hpos, awake_is (K + 1) (by omega), Option.bind_some, if_pos rfl, hL, if_pos rfl, if_pos rfl]
    show some ((bs []).toList == []) = some true
    rw [bs_toList]
    rfl

theorem last_42 (t : List UInt8) (x : UInt8) : bt (bs (t ++ [x])) (t.length : Int) = ((x.toNat : Nat) : Int) := by
  rw [bt_get]
  simp

theorem long_end (K : Nat) (hK : 1000 ≤ K) (z : List UInt8) (hz : z.length ≤ 200) : tarnlaw44_HexaLong.j0 (K + 4) (bs z) = some true := by
  have hm := mid K hK z hz
  rw [tarnlaw44_HexaLong.j0, long_is z (by omega) (K + 3) (by omega), Option.bind_some]
  rcases List.eq_nil_or_concat z with rfl | ⟨t, x, rfl⟩
  · rw [if_neg (by decide), tarnlaw44_HexaLong.j1, if_neg (by decide)]
    exact hm
  · simp only [List.concat_eq_append] at *
    have e0 : ((bs (t ++ [x])).size : Int) = t.length + 1 := by rw [bs_size]; simp
    have hl : t.length + 1 ≤ 200 := by simpa using hz
    have e2 : wrap64 ((t.length : Int) + 1 - 1) = t.length := by rw [Pure.wrap_id (by omega) (by omega)]; omega
    have e4 : (bs (t ++ [x])).extract 0 t.length = bs t := by rw [bs_ext]; simp
    rw [e0, if_pos (by omega), e2, if_pos (by omega), if_pos (by omega), last_42, tarnlaw44_HexaLong.j1]
    by_cases hx : x = 42
    · subst hx
      have hcut : cutS (t ++ [42]) = (t, true) := by unfold cutS; simp
      rw [hcut] at hm
      rw [if_pos (by decide), e0, e2, if_pos (by omega), if_pos (by omega), Int.toNat_natCast, e4]
      exact hm
    · have hcut : cutS (t ++ [x]) = (t ++ [x], false) := by
        unfold cutS
        simp [hx]
      rw [hcut] at hm
      have hne : ¬ (((x.toNat : Int) == 42) = true) := by
        intro h
        have : (x.toNat : Int) = 42 := by simpa using h
        exact hx (UInt8.toNat_inj.mp (by simpa using (by omega : x.toNat = 42)))
      rw [if_neg hne]
      exact hm

theorem HexaLong : tarnlaw44_HexaLong.Pure := by
  intro a0 a1 a2 ha ha2
  obtain ⟨s, rfl⟩ : ∃ s, a0 = bs s := ⟨_, (bs_of a0).symm⟩
  obtain ⟨y, rfl⟩ : ∃ s, a2 = bs s := ⟨_, (bs_of a2).symm⟩
  rw [bs_size] at ha ha2
  have hm : 0 ≤ mn ((bs s).size : Int) 40 ∧ mn ((bs s).size : Int) 40 ≤ s.length ∧ mn ((bs s).size : Int) 40 ≤ 40 := by rw [bs_size]; unfold mn; omega
  have hm2 : 0 ≤ mn ((bs y).size : Int) 3 ∧ mn ((bs y).size : Int) 3 ≤ y.length ∧ mn ((bs y).size : Int) 3 ≤ 3 := by rw [bs_size]; unfold mn; omega
  obtain ⟨K, hK⟩ : ∃ K : Nat, 1000 ≤ K := ⟨1000, Nat.le_refl _⟩
  refine ⟨K + 4, ?_⟩
  unfold tarnlaw44_HexaLong.f
  rw [if_pos hm.1, if_pos (by rw [bs_size]; exact hm.2.1)]
  obtain ⟨t, ht, htl⟩ : ∃ t, (bs s).extract 0 (mn ((bs s).size : Int) 40).toNat = bs t ∧ t.length ≤ 40 := ⟨_, bs_ext _ _ _, by simp; omega⟩
  obtain ⟨u, hu, hul⟩ : ∃ t, (bs y).extract 0 (mn ((bs y).size : Int) 3).toNat = bs t ∧ t.length ≤ 3 := ⟨_, bs_ext _ _ _, by simp; omega⟩
  have hl := hexL_length t
  rw [ht, ref_put_is t (by omega), Option.bind_some, if_pos hm2.1, if_pos (by rw [bs_size]; exact hm2.2.1), hu, if_pos (by rw [bs_size, bs_size]; omega), bs_app]
  have hstar : (⟨#[42]⟩ : ByteArray) = bs [42] := rfl
  by_cases h : a1 = true
  · rw [if_pos h, if_pos (by rw [bs_size]; simp; omega), hstar, bs_app]
    exact long_end K hK _ (by simp; omega)
  · rw [if_neg h]
    exact long_end K hK _ (by simp; omega)
end Go.Proofs.Ytfblmfefcgmpfac.Pure
