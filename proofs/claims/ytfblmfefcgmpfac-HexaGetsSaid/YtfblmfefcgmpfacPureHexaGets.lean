/- Whatever is told in digits, up to 40 bytes of a text with up to 5 bytes laid in: it is the document's bytes, or where it is wrong; no conditions. -/
import Derived.Test.YtfblmfefcgmpfacHexaLaws
import Derived.Test.YtfblmfefcgmpfacNum
namespace Go.Proofs.Ytfblmfefcgmpfac.Pure
open Go.RowKit Go.Proofs.Ytfblmfefcgmpfac.PHexa Go.Proofs.YtfblmfefcgmpfacW.PrintWords Go.Proofs.YtfblmfefcgmpfacW.PrintLast Go.Proofs.YtfblmfefcgmpfacW.PrintMore Go.Proofs.Ytfblmfefcgmpfac.X

theorem HexaGets : tarnlaw44_HexaGets.Pure := by
  intro a0 a1 a2 ha _ ha2
  obtain ⟨s, rfl⟩ : ∃ s, a0 = bs s := ⟨_, (bs_of a0).symm⟩
  obtain ⟨y, rfl⟩ : ∃ s, a2 = bs s := ⟨_, (bs_of a2).symm⟩
  rw [bs_size] at ha ha2
  have hm : 0 ≤ mn ((bs s).size : Int) 40 ∧ mn ((bs s).size : Int) 40 ≤ s.length ∧ mn ((bs s).size : Int) 40 ≤ 40 := by rw [bs_size]; unfold mn; omega
  have hm2 : 0 ≤ mn ((bs y).size : Int) 5 ∧ mn ((bs y).size : Int) 5 ≤ y.length ∧ mn ((bs y).size : Int) 5 ≤ 5 := by rw [bs_size]; unfold mn; omega
  obtain ⟨K, hK⟩ : ∃ K : Nat, 1000 ≤ K := ⟨1000, Nat.le_refl _⟩
  refine ⟨K, ?_⟩
  unfold tarnlaw44_HexaGets.f
  rw [if_pos hm.1, if_pos (by rw [bs_size]; exact hm.2.1)]
  obtain ⟨t, ht, htl⟩ : ∃ t, (bs s).extract 0 (mn ((bs s).size : Int) 40).toNat = bs t ∧ t.length ≤ 40 := ⟨_, bs_ext _ _ _, by simp; omega⟩
  obtain ⟨u, hu, hul⟩ : ∃ t, (bs y).extract 0 (mn ((bs y).size : Int) 5).toNat = bs t ∧ t.length ≤ 5 := ⟨_, bs_ext _ _ _, by simp; omega⟩
  rw [ht, ref_put_is t (by omega), Option.bind_some]
  have hl := hexL_length t
  generalize hexL t = h at hl
  have hsz : ((bs h).size : Int) = h.length := rfl
  rw [hsz, and_255, Proofs.Ytfblmfefcgmpfac.X.wrap_id (x := (h.length : Int) + 1) (by omega) (by omega)]
  obtain ⟨j, hj⟩ : ∃ j : Nat, Int.tmod (a1 % 256) ((h.length : Int) + 1) = j ∧ j ≤ h.length := by
    rw [Int.tmod_eq_emod_of_nonneg (by omega)]
    have h0 := Int.emod_nonneg (a1 % 256) (show (h.length : Int) + 1 ≠ 0 by omega)
    have h1 := Int.emod_lt_of_pos (a1 % 256) (show (0 : Int) < (h.length : Int) + 1 by omega)
    exact ⟨((a1 % 256) % ((h.length : Int) + 1)).toNat, by omega, by omega⟩
  rw [if_neg (by omega), hj.1, if_pos (by omega), if_pos (by omega), if_pos hm2.1, if_pos (by rw [bs_size]; exact hm2.2.1), hu, Int.toNat_natCast, bs_ext, bs_ext]
  rw [if_pos (by rw [bs_size, bs_size]; simp; omega), bs_app, if_pos (by rw [bs_size, bs_size]; simp; omega), bs_app]
  have hz : ((List.take (j - 0) (List.drop 0 h) ++ u) ++ List.take ((bs h).size - j) (List.drop j h)).length ≤ 200 := by simp [bs_size]; omega
  generalize ((List.take (j - 0) (List.drop 0 h) ++ u) ++ List.take ((bs h).size - j) (List.drop j h)) = z at hz
  rw [awake_is K (by omega)]
  rcases hh : hx z 0 with b | e
  · have h1 : hexa_Get.f K (bs z) = some (bs b, 0, 0) := by rw [get_is z (by omega) K (by omega), hh]; simp [told]
    have h2 : tarnref44_Get.f K (bs z) = some (bs b, -1) := by rw [ref_get_is z (by omega) K (by omega), hh]; simp [toldR]
    rw [h1, h2, Option.bind_some, Option.bind_some]
    simp
  · have h1 : hexa_Get.f K (bs z) = some (bs [], (e : Int), 440) := by rw [get_is z (by omega) K (by omega), hh]; simp [told]
    have h2 : tarnref44_Get.f K (bs z) = some (bs [], (e : Int)) := by rw [ref_get_is z (by omega) K (by omega), hh]; simp [toldR]
    rw [h1, h2, Option.bind_some, Option.bind_some, if_pos (by show (e : Int) ≥ 0; omega)]
    simp
end Go.Proofs.Ytfblmfefcgmpfac.Pure
