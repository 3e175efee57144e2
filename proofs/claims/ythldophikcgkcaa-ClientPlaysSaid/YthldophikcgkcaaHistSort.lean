/- client.History: Open, whole. -/
import Derived.Test.YthldophikcgkcaaHistOpen
import Derived.Test.YthldophikcgkcaaXGen
import Derived.Shelf.SortM.Plain
import Derived.Shelf.SortM.SortNone
namespace Go.Proofs.Ythldophikcgkcaa.Y
set_option linter.unusedVariables false
set_option linter.unusedSimpArgs false
open Go.RowKit Go.Shelf Go.Proofs Go.Maps Go.IntWalk Go.Sort Go.Proofs.YthldophikcgkcaaW.PrintWords Go.Proofs.YthldophikcgkcaaW.PrintLast Go.Proofs.YthldophikcgkcaaW.PrintMore Go.Proofs.Ythldophikcgkcaa.X

/-- slices.Sort of a row of the call's own. -/
theorem sort_row (B : Nat) (W : World) (v : Value) (zs : List Int) (hown : W.ownsRow B 3 1 v zs.length (nums .i64 zs)) (hl : zs.length ≤ 2000000) :
    Calls Try.prog 45 #[v] W fun e W' => e = .returned (.tuple #[]) ∧ W'.ownsRow B 3 1 v zs.length (nums .i64 (zs.mergeSort fun x y => decide (x ≤ y))) ∧ ∀ w C, C ≤ B → Below C w W → C ≤ W.heap.size → Below C w W' := by
  have hown' := hown
  rcases hown.2 with ⟨rfl, h0⟩ | ⟨g, cap, cur, rfl, hgB, hcur, hncap, hmax, hsz, htake⟩
  · have hz := List.eq_nil_of_length_eq_zero h0
    subst hz
    refine (AnyM.slices_Sort_int_none sort_int none 0 W).mono ?_
    rintro e w' ⟨rfl, rfl⟩
    exact ⟨rfl, by simpa [nums] using World.ownsRow_nil _ _ _ _, fun w C _ h _ => h⟩
  have hg3 : g < W.heap.size := (Array.getElem?_eq_some_iff.1 hcur).1
  rw [Nat.mul_one] at htake
  refine (AnyM.slices_Sort_int sort_int g 0 cap zs W (holds_of_blockI hcur htake) hg3 (by omega)).mono ?_
  rintro e W4 ⟨rfl, q, os, rfl⟩
  have htl : (zs.mergeSort fun x y => decide (x ≤ y)).length = zs.length := List.length_mergeSort _
  have ho := ownsRow_sortedI (n := q) (os := os) (ss := zs) (ts := zs.mergeSort fun x y => decide (x ≤ y)) (base := B) htl hgB hcur hncap hmax hsz
  refine ⟨rfl, ?_, fun w C hC hb hs => ?_⟩
  · exact ho
  · exact pw_below_grown hb (some g) hs (grownBy_sortedI _) (fun k hk => by injection hk with hk; omega)
theorem rising_sort {L : List Int} (hn : L.Nodup) : (L.mergeSort fun x y => decide (x ≤ y)).Pairwise (· < ·) := by
  have h1 := List.pairwise_mergeSort (le := fun x y : Int => decide (x ≤ y)) (fun a b c h1 h2 => by simp at h1 h2 ⊢; omega) (fun a b => by simp; omega) L
  have h2 : (L.mergeSort fun x y => decide (x ≤ y)).Nodup := (List.mergeSort_perm L _).nodup_iff.2 hn
  have h3 := h1.and h2
  exact h3.imp fun h => by have := h.1; have := h.2; simp at *; omega
theorem rising_mem (L : List Int) (x : Int) : x ∈ (L.mergeSort fun x y => decide (x ≤ y)) ↔ x ∈ L := (List.mergeSort_perm L _).mem_iff
theorem open_n (w : World) (F : Nat → Prop) (gh bm : Nat) (v : Value) (evs : List EvV) (op : Int → Prop) (next : Int) (H : HI w F gh bm v evs op next) (hnx : next ≤ 1000000) (hS : ∀ x, op x → 1 ≤ x ∧ x ≤ next) :
    Calls Try.prog 28 #[.pointer (some ⟨gh, 0, none⟩)] w fun e w' => ∃ v' L, e = .returned v' ∧ Below w.heap.size w w' ∧ w'.ownsRow (w.heap.size + 1) 3 1 v' L.length (nums .i64 L) ∧ L.Pairwise (· < ·) ∧ ∀ x, x ∈ L ↔ op x := by
  refine (open_loop w F gh bm v evs op next H hnx hS (fun w' v' => ∃ L : List Int, w'.ownsRow (w.heap.size + 1) 3 1 v' L.length (nums .i64 L) ∧ L.Pairwise (· < ·) ∧ ∀ x, x ∈ L ↔ op x) ?_).mono ?_
  · intro wr v3 L hown hB hn hm
    have hl : L.length ≤ 1000000 := by
      have := len_le hn (n := next) (fun z hz => hS z ((hm z).1 hz))
      omega
    refine (sort_row _ wr v3 L hown (by omega)).mono ?_
    rintro e w' ⟨rfl, h1, h2⟩
    refine ⟨rfl, h2 w _ (Nat.le_succ _) hB hB.size, L.mergeSort fun x y => decide (x ≤ y), ?_, rising_sort hn, fun x => (rising_mem L x).trans (hm x)⟩
    rw [List.length_mergeSort]
    exact h1
  · rintro e w' ⟨v', rfl, hB, L, h1, h2, h3⟩
    exact ⟨v', L, rfl, hB, h1, h2, h3⟩
end Go.Proofs.Ythldophikcgkcaa.Y
