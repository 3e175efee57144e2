import Derived.Test.YtfblmfefcgmpfabPNeedx9
import Derived.Test.YtfblmfefcgmpfabNeedPure
namespace Go.Proofs.Ytfblmfefcgmpfab.Pure
open Go.RowKit Go.Proofs.Ytfblmfefcgmpfab.PNeed Go.Proofs.YtfblmfefcgmpfabW.PrintWords Go.Proofs.YtfblmfefcgmpfabW.PrintLast Go.Proofs.Ytfblmfefcgmpfab.X

theorem rd_part (w at' : Int) (d : ByteArray) (m i : Nat) (h : i < m) : rd_T68 ((List.range m).map (Go.Proofs.Ytfblmfefcgmpfab.X.part w at' d)) (i : Int) = Go.Proofs.Ytfblmfefcgmpfab.X.part w at' d i := by
  unfold rd_T68
  rw [Int.toNat_natCast, List.getD_eq_getElem?_getD, List.getElem?_map, List.getElem?_range h]
  rfl
theorem l0_t {w at' len n : Int} {d : ByteArray} {s : Bool} (h0 : 0 ≤ at') (h1 : In at') (m : Nat) (hm : m ≤ 4) (hn : at' / 32 + m ≤ n) (hd : w = 1 → (32 * m : Nat) ≤ d.size) : ∀ (j i : Nat), i + j = m → ∀ k, 30 + 2 * j ≤ k →
    tarnlaw28_NeedParts.l0 k n ((List.range m).map (Go.Proofs.Ytfblmfefcgmpfab.X.part w at' d)) (i : Int) w at' len d s = some true := by
  obtain ⟨p1, p2⟩ := h1
  intro j
  induction j with
  | zero =>
    intro i hi k hk
    obtain ⟨k, rfl⟩ : ∃ q, k = q + 1 := ⟨k - 1, by omega⟩
    rw [tarnlaw28_NeedParts.l0, if_neg (by simp; omega), awake_f _ (by omega), Option.bind_some]
  | succ j ih =>
    intro i hi k hk
    obtain ⟨k, rfl⟩ : ∃ q, k = q + 2 := ⟨k - 2, by omega⟩
    have hnext := ih (i + 1) (by omega) k (by omega)
    have hlen : (((List.range m).map (Go.Proofs.Ytfblmfefcgmpfab.X.part w at' d)).length : Int) = (m : Int) := by simp
    have hrd := rd_part w at' d m i (by omega)
    have e1 : wrap64 ((i : Int) + 1) = ((i + 1 : Nat) : Int) := by rw [wrap_id (by omega) (by omega)]; omega
    have e2 : wrap64 (32 * (i : Int)) = ((32 * i : Nat) : Int) := by rw [wrap_id (by omega) (by omega)]; omega
    have e3 : wrap64 (((32 * i : Nat) : Int) + 32) = ((32 * i + 32 : Nat) : Int) := by rw [wrap_id (by omega) (by omega)]; omega
    have e4 : wrap64 ((wrap64 (Int.tdiv at' 32)) + (i : Int)) = at' / 32 + (i : Int) := by
      rw [tdiv_pos h0, wrap_id (x := at' / 32) (by omega) (by omega), wrap_id (by omega) (by omega)]
    have hj : ∀ z : ByteArray, (w ≠ 1 → z = (Go.Proofs.Ytfblmfefcgmpfab.X.part w at' d i).f2) → tarnlaw28_NeedParts.j2 (k + 1) n ((List.range m).map (Go.Proofs.Ytfblmfefcgmpfab.X.part w at' d)) (i : Int) w at' len d s (at' / 32 + (i : Int)) (w != 0) z = some true := by
      intro z hz
      rw [tarnlaw28_NeedParts.j2, hlen, hrd, e1, e2, e3]
      by_cases c1 : w = 1
      · have := hd c1
        have hp : (Go.Proofs.Ytfblmfefcgmpfab.X.part w at' d i).f2 = d.extract (32 * i) (32 * i + 32) := by
          unfold Go.Proofs.Ytfblmfefcgmpfab.X.part
          rw [if_pos c1]
        rw [if_pos c1, if_pos (by omega), if_pos (by omega), if_pos (by omega), if_pos (by omega), if_pos (by omega), hp]
        show (if (!((at' / 32 + (i : Int)) == at' / 32 + (i : Int)) || (!((w != 0) == (w != 0)) || (!((d.extract (32 * i) (32 * i + 32)).toList == (d.extract (32 * i) (32 * i + 32)).toList)))) = true then some false else if at' / 32 + (i : Int) ≥ n then some false else _) = some true
        rw [beq_self_eq_true, beq_self_eq_true, beq_self_eq_true, if_neg (by decide), if_neg (by omega)]
        exact hnext
      · rw [if_neg c1, if_pos (by omega), if_pos (by omega), hz c1]
        show (if (!((at' / 32 + (i : Int)) == at' / 32 + (i : Int)) || (!((w != 0) == (w != 0)) || (!((Go.Proofs.Ytfblmfefcgmpfab.X.part w at' d i).f2.toList == (Go.Proofs.Ytfblmfefcgmpfab.X.part w at' d i).f2.toList)))) = true then some false else if at' / 32 + (i : Int) ≥ n then some false else _) = some true
        rw [beq_self_eq_true, beq_self_eq_true, beq_self_eq_true, if_neg (by decide), if_neg (by omega)]
        exact hnext
    rw [tarnlaw28_NeedParts.l0, hlen, if_pos (by omega), e4]
    by_cases c2 : w = 2
    · rw [if_pos c2]
      refine hj zeros (fun c1 => ?_)
      unfold Go.Proofs.Ytfblmfefcgmpfab.X.part
      rw [if_neg c1, if_pos c2]
    · rw [if_neg c2]
      refine hj _ (fun c1 => ?_)
      unfold Go.Proofs.Ytfblmfefcgmpfab.X.part
      rw [if_neg c1, if_neg c2]
theorem NeedParts : tarnlaw28_NeedParts.Pure := by
  intro a0_0 a0_1 a0_2 a0_3 a0_4 a1 a2 hw h1 h2
  obtain ⟨q1, q2, q3, q4, q5⟩ := hw
  have hn : wrap64 ((Go.bits .and .i64 a1 63) + 1) = a1 % 64 + 1 := by rw [and_63, wrap_id (by omega) (by omega)]
  obtain ⟨⟨w, at', len, d, s⟩, ⟨r1, r2, r3, r4⟩, hr⟩ := odd_f (w := a0_0) (at' := a0_1) (len := a0_2) (n := wrap64 ((Go.bits .and .i64 a1 63) + 1)) (o := a2) (d := a0_3) (s := a0_4) (in_of_wf q1) (in_of_wf q2) (in_of_wf q3) q4
  rw [hn] at hr
  have h3 : 0 ≤ a1 % 64 + 1 := by omega
  have h4 : a1 % 64 + 1 ≤ 64 := by omega
  refine ⟨100 + 1, ?_⟩
  unfold tarnlaw28_NeedParts.f
  rw [hn, hr _ (by omega), Option.bind_some]
  generalize a1 % 64 + 1 = n at *
  show (need_Parts.f (100 + 1) w at' len d s n).bind _ = some true
  rw [parts_f r2 r3 h3 r4 _ (by omega), Option.bind_some]
  show (need_May.f (100 + 1) w at' len d s n).bind _ = some true
  rw [may_f r2 r3 h3 r4, Option.bind_some]
  have hnil : parts w at' len d n = [] → tarnlaw28_NeedParts.j0 (100 + 1) n (parts w at' len d n) true w at' len d s = some true := by
    intro h
    rw [tarnlaw28_NeedParts.j0, if_pos rfl, awake_f _ (by omega), Option.bind_some, if_pos rfl, h]
    rfl
  by_cases c : May w at' len d n
  · rw [if_pos c, if_pos rfl]
    by_cases c3 : w = 3
    · have : (w == 3) = true := by simpa using c3
      show tarnlaw28_NeedParts.j0 (100 + 1) n (parts w at' len d n) (w == 3) w at' len d s = some true
      rw [this]
      exact hnil (by unfold parts; rw [if_neg (fun h => h.2 c3)])
    · have e3 : (w == 3) = false := by simpa using c3
      have hsp : Span at' (size w len d) (min n 64) := by
        rcases c with c | c
        · exact absurd c c3
        · exact c.2
      obtain ⟨z1, z2, z3⟩ := span_4 hsp
      show tarnlaw28_NeedParts.j0 (100 + 1) n (parts w at' len d n) (w == 3) w at' len d s = some true
      have hp : parts w at' len d n = (List.range (size w len d / 32).toNat).map (Go.Proofs.Ytfblmfefcgmpfab.X.part w at' d) := by unfold parts; rw [if_pos ⟨c, c3⟩]
      have hl : (((List.range (size w len d / 32).toNat).map (Go.Proofs.Ytfblmfefcgmpfab.X.part w at' d)).length : Int) = size w len d / 32 := by simp; omega
      rw [tarnlaw28_NeedParts.j0, e3, if_neg (by decide), size_f, Option.bind_some, hp, hl, wrap_id (by omega) (by omega), if_pos (by omega)]
      have hs2 := hsp.2.2.2.2.2
      exact l0_t (n := n) hsp.1 r2 (size w len d / 32).toNat (by omega) (by omega) (by intro h; unfold size at z3 ⊢; rw [if_pos h] at z3 ⊢; omega) (size w len d / 32).toNat 0 (by omega) 100 (by omega)
  · rw [if_neg c, if_neg (by decide)]
    exact hnil (by unfold parts; rw [if_neg (fun h => c h.1)])
end Go.Proofs.Ytfblmfefcgmpfab.Pure
