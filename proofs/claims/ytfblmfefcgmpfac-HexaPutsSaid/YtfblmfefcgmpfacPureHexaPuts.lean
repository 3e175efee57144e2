/- Bytes, up to 100 of a text, are told by their digits as the document says, and come back; no conditions. -/
import Derived.Test.YtfblmfefcgmpfacHexaLaws
namespace Go.Proofs.Ytfblmfefcgmpfac.Pure
open Go.RowKit Go.Proofs.Ytfblmfefcgmpfac.PHexa Go.Proofs.YtfblmfefcgmpfacW.PrintWords Go.Proofs.YtfblmfefcgmpfacW.PrintLast Go.Proofs.YtfblmfefcgmpfacW.PrintMore Go.Proofs.Ytfblmfefcgmpfac.X

theorem HexaPuts : tarnlaw44_HexaPuts.Pure := by
  intro a0 ha
  obtain ⟨s, rfl⟩ : ∃ s, a0 = bs s := ⟨_, (bs_of a0).symm⟩
  rw [bs_size] at ha
  have hm : 0 ≤ mn ((bs s).size : Int) 100 ∧ mn ((bs s).size : Int) 100 ≤ s.length ∧ mn ((bs s).size : Int) 100 ≤ 100 := by rw [bs_size]; unfold mn; omega
  obtain ⟨K, hK⟩ : ∃ K : Nat, 1000 ≤ K := ⟨1000, Nat.le_refl _⟩
  refine ⟨K, ?_⟩
  unfold tarnlaw44_HexaPuts.f
  rw [if_pos hm.1, if_pos (by rw [bs_size]; exact hm.2.1)]
  obtain ⟨t, ht, htl⟩ : ∃ t, (bs s).extract 0 (mn ((bs s).size : Int) 100).toNat = bs t ∧ t.length ≤ 100 := ⟨_, bs_ext _ _ _, by simp; omega⟩
  rw [ht, put_is t (by omega)]
  simp only [Option.bind_some]
  have hg : hexa_Get.f K (bs (hexL t)) = some (bs t, 0, 0) := by rw [get_is _ (by rw [hexL_length]; omega) K (by rw [hexL_length]; omega), hx_hexL]; simp [told]
  rw [hg, awake_is K (by omega), ref_put_is t (by omega)]
  simp
end Go.Proofs.Ytfblmfefcgmpfac.Pure
