import Derived.Test.YtfblmfefcgmpfabPNeedx8
import Derived.Test.YtfblmfefcgmpfabNeedPure
namespace Go.Proofs.Ytfblmfefcgmpfab.Pure
open Go.RowKit Go.Proofs.Ytfblmfefcgmpfab.PNeed Go.Proofs.YtfblmfefcgmpfabW.PrintWords Go.Proofs.YtfblmfefcgmpfabW.PrintLast Go.Proofs.Ytfblmfefcgmpfab.X

theorem j2_t {w at' len n : Int} {d : ByteArray} {s : Bool} (h1 : In at') (h2 : In len) (h3 : 0 ≤ n) (hd : d.size ≤ 9223372036854775807) (k : Nat) (hk : 20 ≤ k) (b : Bool) (hb : b = decide (May w at' len d n)) :
    tarnlaw28_NeedMay.j2 k n (size w len d) b w at' len d s = some true := by
  obtain ⟨k, rfl⟩ : ∃ q, k = q + 1 := ⟨k - 1, by omega⟩
  obtain ⟨q, rfl⟩ : ∃ q, k = q + 1 := ⟨k - 1, by omega⟩
  rw [tarnlaw28_NeedMay.j2, may_f h1 h2 h3 hd, Option.bind_some, awake_f _ (by omega), Option.bind_some, if_pos rfl, size_f, parts_f h1 h2 h3 hd _ (by omega)]
  by_cases c : May w at' len d n
  · have hb1 : b = true := by rw [hb]; exact decide_eq_true c
    rw [if_pos c, if_pos (by rw [hb1]; rfl), if_pos hb1, Option.bind_some, if_pos rfl, Option.bind_some]
    by_cases c3 : w = 3
    · subst c3
      unfold parts
      rw [if_neg (by simp)]
      rfl
    · have hsp := c
      rcases hsp with hsp | hsp
      · exact absurd hsp c3
      obtain ⟨q1, q2, q3⟩ := span_4 hsp.2
      unfold parts
      rw [if_pos ⟨c, c3⟩]
      have e1 : decide ((((List.range (size w len d / 32).toNat).map (Go.Proofs.Ytfblmfefcgmpfab.X.part w at' d)).length : Int) > 0) = true := decide_eq_true (by simp; omega)
      have e2 : decide (w < 3) = true := decide_eq_true (by omega)
      rw [e1, e2]
      rfl
  · have hb1 : b = false := by rw [hb]; exact decide_eq_false c
    rw [if_neg c, if_pos (by rw [hb1]; rfl), if_neg (by rw [hb1]; decide), if_pos rfl, Option.bind_some, if_pos rfl, Option.bind_some]
    unfold parts
    rw [if_neg (fun h => c h.1)]
    rfl
theorem j1_t {w at' len n : Int} {d : ByteArray} {s : Bool} (h1 : In at') (h2 : In len) (h3 : 0 ≤ n) (hd : d.size ≤ 9223372036854775807) (k : Nat) (hk : 21 ≤ k) (b : Bool) (hb : b = decide (0 ≤ w ∧ w < 3)) :
    tarnlaw28_NeedMay.j1 k n (size w len d) (w == 3) b w at' len d s = some true := by
  obtain ⟨k, rfl⟩ : ∃ q, k = q + 1 := ⟨k - 1, by omega⟩
  have hs : In (size w len d) := by
    obtain ⟨p1, p2⟩ := h2
    unfold size In
    split <;> omega
  have hj : ∀ b : Bool, b = decide (May w at' len d n) → tarnlaw28_NeedMay.j2 k n (size w len d) b w at' len d s = some true := fun b hb => j2_t (w := w) (at' := at') (len := len) (n := n) (d := d) (s := s) h1 h2 h3 hd k (by omega) b hb
  rw [tarnlaw28_NeedMay.j1]
  by_cases c : 0 ≤ w ∧ w < 3
  · have hm : May w at' len d n ↔ Span at' (size w len d) (min n 64) := by
      unfold May
      constructor
      · rintro (h | h)
        · omega
        · exact h.2
      · intro h
        exact Or.inr ⟨by omega, h⟩
    have no : ¬ Span at' (size w len d) (min n 64) → tarnlaw28_NeedMay.j2 k n (size w len d) false w at' len d s = some true := fun h => hj _ (decide_eq_false (fun h' => h (hm.mp h'))).symm
    rw [if_pos (by rw [hb]; exact decide_eq_true c)]
    unfold In at h1 hs
    generalize size w len d = z at *
    by_cases c1 : at' ≥ 0
    · rw [if_pos c1, tmod_pos c1, tdiv_pos c1]
      by_cases c2 : at' % 32 = 0
      · rw [if_pos c2]
        by_cases c3 : z > 0
        · rw [if_pos c3, tmod_pos (by omega), tdiv_pos (by omega)]
          by_cases c4 : z % 32 = 0
          · rw [if_pos c4]
            by_cases c5 : z ≤ 128
            · rw [if_pos c5]
              refine hj _ ?_
              rw [mn_64, wrap_id (x := at' / 32) (by omega) (by omega), wrap_id (x := z / 32) (by omega) (by omega), wrap_id (by omega) (by omega)]
              apply decide_eq_decide.mpr
              rw [hm]
              unfold Span
              omega
            · rw [if_neg c5]; exact no (by unfold Span; omega)
          · rw [if_neg c4]; exact no (by unfold Span; omega)
        · rw [if_neg c3]; exact no (by unfold Span; omega)
      · rw [if_neg c2]; exact no (by unfold Span; omega)
    · rw [if_neg c1]; exact no (by unfold Span; omega)
  · rw [if_neg (by rw [hb, decide_eq_false c]; decide)]
    refine hj _ ?_
    have hm : May w at' len d n ↔ w = 3 := by
      unfold May
      constructor
      · rintro (h | h)
        · exact h
        · omega
      · exact Or.inl
    by_cases c3 : w = 3
    · rw [decide_eq_true (hm.mpr c3)]; simpa using c3
    · rw [decide_eq_false (fun h => c3 (hm.mp h))]; simpa using c3
theorem NeedMay : tarnlaw28_NeedMay.Pure := by
  intro a0_0 a0_1 a0_2 a0_3 a0_4 a1 a2 hw h1 h2
  obtain ⟨q1, q2, q3, q4, q5⟩ := hw
  obtain ⟨⟨w, at', len, d, s⟩, ⟨r1, r2, r3, r4⟩, hr⟩ := odd_f (w := a0_0) (at' := a0_1) (len := a0_2) (n := Go.bits .and .i64 a1 127) (o := a2) (d := a0_3) (s := a0_4) (in_of_wf q1) (in_of_wf q2) (in_of_wf q3) q4
  have hn : 0 ≤ Go.bits .and .i64 a1 127 := by rw [and_127]; omega
  refine ⟨23 + 1, ?_⟩
  unfold tarnlaw28_NeedMay.f
  rw [hr _ (by omega), Option.bind_some]
  have key : tarnlaw28_NeedMay.j0 (23 + 1) (Go.bits .and .i64 a1 127) (size w len d) w at' len d s = some true := by
    rw [tarnlaw28_NeedMay.j0]
    by_cases c : w ≥ 0
    · rw [if_pos c]
      exact j1_t r2 r3 hn r4 _ (by omega) _ (by apply decide_eq_decide.mpr; omega)
    · rw [if_neg c]
      exact j1_t r2 r3 hn r4 _ (by omega) _ (by rw [decide_eq_false (by omega)])
  by_cases c : w = 1
  · rw [if_pos c]
    unfold size at key
    rw [if_pos c] at key
    exact key
  · rw [if_neg c]
    unfold size at key
    rw [if_neg c] at key
    exact key
end Go.Proofs.Ytfblmfefcgmpfab.Pure
