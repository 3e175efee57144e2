/- What place.Mend tells: nodes that are up, each once, as many as there are to be; those of the list that are up ahead. -/
import Derived.Test.YthldophikcgkcaaFill
import Derived.Sort.LotA
namespace Go.Proofs.Ythldophikcgkcaa.Y
set_option linter.unusedVariables false
set_option linter.unusedSimpArgs false
open Go.RowKit Go.Shelf Go.Proofs Go.Sort Go.Proofs.Ythldophikcgkcaa.X

theorem lt_cmpN (ld : Fin 5 → Int) (x y : Fin 5) : ltOf (cmpN ld) x y = decide (ld x < ld y) := by
  unfold ltOf cmpN Lib.compareInt
  by_cases h : ld x < ld y
  · rw [if_pos h, decide_eq_true h]; rfl
  · rw [if_neg h, decide_eq_false h]
    split <;> rfl
theorem swo_cmpN (ld : Fin 5 → Int) : SWO (ltOf (cmpN ld)) := by
  refine ⟨fun x => ?_, fun x y z h1 h2 => ?_, fun x y z h1 h2 => ?_⟩
  · rw [lt_cmpN, decide_eq_false (by omega)]
  · rw [lt_cmpN] at *
    rw [decide_eq_true_eq] at *
    omega
  · rw [lt_cmpN] at *
    rw [decide_eq_false_iff_not] at *
    omega
theorem rk_perm (up : Fin 5 → Bool) (ld : Fin 5 → Int) : (rk up ld).Perm (upTo up 5) := by
  have h := (insertionSort_holds (lt := ltOf (cmpN ld)) (swo_cmpN ld) (upTo up 5).toArray 0 (upTo up 5).length (Nat.zero_le _) (by simp)).1
  have h3 := h.2.2
  have hs := h.1
  unfold rk
  generalize Sort.insertionSort (ltOf (cmpN ld)) (upTo up 5).toArray 0 (upTo up 5).length = d at *
  have e1 : d.extract 0 (upTo up 5).length = d := by
    rw [Array.extract_eq_self_iff]
    right
    exact ⟨rfl, by rw [hs]; simp⟩
  rw [e1] at h3
  simpa using h3
theorem mem_upTo (up : Fin 5 → Bool) (x : Fin 5) : x ∈ upTo up 5 ↔ up x = true := by
  unfold upTo
  rw [List.mem_filter]
  constructor
  · exact fun h => h.2
  · intro h
    refine ⟨?_, h⟩
    show x ∈ ([0, 1, 2, 3, 4] : List (Fin 5))
    match x with
    | 0 => decide
    | 1 => decide
    | 2 => decide
    | 3 => decide
    | 4 => decide
theorem nodup_upTo (up : Fin 5 → Bool) : (upTo up 5).Nodup := by
  unfold upTo
  exact List.Pairwise.filter _ (by decide)
theorem nums_inj {l : List (Fin 5)} (h : l.Nodup) : (nums l).Nodup := by
  unfold nums
  exact List.Pairwise.map _ (fun a b hab e => hab (Fin.ext (by omega))) h
theorem mem_nums {l : List (Fin 5)} {x : Int} : x ∈ nums l ↔ ∃ k : Fin 5, k ∈ l ∧ (k.val : Int) = x := by
  unfold nums
  rw [List.mem_map]
theorem upB_iff (up : Fin 5 → Bool) (x : Int) : upB up x = true ↔ ∃ k : Fin 5, up k = true ∧ (k.val : Int) = x := by
  unfold upB
  by_cases h : 0 ≤ x ∧ x < 5
  · rw [dif_pos h]
    constructor
    · exact fun h2 => ⟨_, h2, by simp; omega⟩
    · rintro ⟨k, hk, hx⟩
      rw [← hk]
      congr 1
      exact Fin.ext (by simp; omega)
  · rw [dif_neg h]
    constructor
    · intro h2; exact absurd h2 (by decide)
    · rintro ⟨k, hk, hx⟩
      exact absurd ⟨by omega, by omega⟩ h
/-- The nodes that are up, in their order of load. -/
structure IsOrder (up : Fin 5 → Bool) (o : List Int) : Prop where
  nd : o.Nodup
  all : ∀ x, x ∈ o ↔ upB up x = true
  len : o.length = (upTo up 5).length
theorem rk_order (up : Fin 5 → Bool) (ld : Fin 5 → Int) : IsOrder up (nums (rk up ld)) := by
  have hp := rk_perm up ld
  refine ⟨nums_inj (hp.nodup_iff.2 (nodup_upTo up)), fun x => ?_, ?_⟩
  · rw [mem_nums, upB_iff]
    constructor
    · rintro ⟨k, h1, h2⟩
      exact ⟨k, (mem_upTo up k).1 (hp.mem_iff.1 h1), h2⟩
    · rintro ⟨k, h1, h2⟩
      exact ⟨k, hp.mem_iff.2 ((mem_upTo up k).2 h1), h2⟩
  · unfold nums
    rw [List.length_map]
    exact hp.length_eq
theorem sub_len : ∀ {l o : List Int}, l.Nodup → (∀ x ∈ l, x ∈ o) → l.length ≤ o.length
  | [], _, _, _ => Nat.zero_le _
  | x :: l, o, hn, hs => by
    have hx := hs x (by simp)
    have h1 := List.nodup_cons.1 hn
    have h2 := sub_len (l := l) (o := o.erase x) h1.2 (fun y hy => (List.mem_erase_of_ne (by rintro rfl; exact h1.1 hy)).2 (hs y (List.mem_cons_of_mem _ hy)))
    rw [List.length_erase_of_mem hx] at h2
    have h3 := List.length_pos_of_mem hx
    simp only [List.length_cons]
    omega
/-- What fill makes of a list of nodes that are up. -/
theorem fill_good (up : Fin 5 → Bool) (want : Nat) (o : List Int) (ho : IsOrder up o) : ∀ (s p l : List Int), o = p ++ s → l.Nodup → (∀ x ∈ l, upB up x = true) → l.length ≤ want → (l.length = want ∨ ∀ x ∈ p, x ∈ l) →
    (fillP want l s).Nodup ∧ (∀ x ∈ fillP want l s, upB up x = true) ∧ (fillP want l s).length = min want o.length ∧ ∃ t, fillP want l s = l ++ t := by
  intro s
  induction s with
  | nil =>
    intro p l he hn hu hl hp
    refine ⟨hn, hu, ?_, [], (List.append_nil l).symm⟩
    show l.length = _
    have h1 := sub_len hn (fun x hx => (ho.all x).2 (hu x hx))
    rcases hp with hp | hp
    · omega
    · have h2 := sub_len (l := o) (o := l) ho.nd (fun x hx => hp x (by rw [he, List.append_nil] at hx; exact hx))
      omega
  | cons a s ih =>
    intro p l he hn hu hl hp
    have ha : a ∈ o := by rw [he]; simp
    show (fillP want (fillS want l a) s).Nodup ∧ _
    have hstep : (fillS want l a).Nodup ∧ (∀ x ∈ fillS want l a, upB up x = true) ∧ (fillS want l a).length ≤ want ∧ ((fillS want l a).length = want ∨ ∀ x ∈ p ++ [a], x ∈ fillS want l a) ∧ ∃ t, fillS want l a = l ++ t := by
      unfold fillS
      by_cases h : l.length < want ∧ hasB a l = false
      · rw [if_pos h]
        have hna : a ∉ l := by
          intro hm
          have := (hasB_iff a l).2 hm
          rw [h.2] at this
          exact absurd this (by decide)
        refine ⟨?_, ?_, ?_, ?_, [a], rfl⟩
        · rw [List.nodup_append]
          refine ⟨hn, by simp, ?_⟩
          intro x hx y hy e
          rw [List.mem_singleton] at hy
          exact hna (by rw [← hy, ← e]; exact hx)
        · intro x hx
          rcases List.mem_append.1 hx with hx | hx
          · exact hu x hx
          · rw [List.mem_singleton] at hx
            rw [hx]
            exact (ho.all a).1 ha
        · rw [List.length_append]
          simp
          omega
        · right
          rcases hp with hp | hp
          · omega
          · intro x hx
            rcases List.mem_append.1 hx with hx | hx
            · exact List.mem_append_left _ (hp x hx)
            · exact List.mem_append_right _ hx
      · rw [if_neg h]
        refine ⟨hn, hu, hl, ?_, [], (List.append_nil l).symm⟩
        rcases hp with hp | hp
        · exact Or.inl hp
        · by_cases h1 : l.length < want
          · right
            intro x hx
            rcases List.mem_append.1 hx with hx | hx
            · exact hp x hx
            · rw [List.mem_singleton] at hx
              rw [hx]
              cases hh : hasB a l with
              | true => exact (hasB_iff a l).1 hh
              | false => exact absurd ⟨h1, hh⟩ h
          · left; omega
    obtain ⟨t1, ht1⟩ := hstep.2.2.2.2
    obtain ⟨i1, i2, i3, t, i4⟩ := ih (p ++ [a]) (fillS want l a) (by rw [he]; simp) hstep.1 hstep.2.1 hstep.2.2.1 hstep.2.2.2.1
    exact ⟨i1, i2, i3, t1 ++ t, by show fillP want (fillS want l a) s = _; rw [i4, ht1, List.append_assoc]⟩
/-- What the law asks of a list of Mend's. -/
structure Mended (up : Fin 5 → Bool) (l now : List Int) : Prop where
  nd : now.Nodup
  all : ∀ x ∈ now, upB up x = true
  len : now.length = min l.length (upTo up 5).length
  ahead : ∃ t, now = l.filter (upB up) ++ t
theorem mended (up : Fin 5 → Bool) (ld : Fin 5 → Int) (l : List Int) (hn : l.Nodup) : Mended up l (fillP l.length (l.filter (upB up)) (nums (rk up ld))) := by
  have ho := rk_order up ld
  obtain ⟨h1, h2, h3, t, h4⟩ := fill_good up l.length _ ho _ [] (l.filter (upB up)) rfl (List.Pairwise.filter _ hn) (fun x hx => (List.mem_filter.1 hx).2) (List.length_filter_le _ _) (Or.inr (fun x hx => absurd hx (List.not_mem_nil)))
  exact ⟨h1, h2, h3.trans (congrArg (min l.length) ho.len), t, h4⟩
end Go.Proofs.Ythldophikcgkcaa.Y
