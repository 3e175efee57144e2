/- search.Order: is there an order? -/
import Derived.Test.YthldophikcgkcaaSearchFrom
import Derived.Test.YthldophikcgkcaaXGen
import Derived.Shelf.SlicesE.Clone
import Derived.Carry
namespace Go.Proofs.Ythldophikcgkcaa.Y
set_option linter.unusedVariables false
set_option linter.unusedSimpArgs false
open Go.RowKit Go.Shelf Go.Proofs Go.IntWalk Go.Proofs.YthldophikcgkcaaW.PrintWords Go.Proofs.YthldophikcgkcaaW.PrintLast Go.Proofs.YthldophikcgkcaaW.PrintMore Go.Proofs.Ythldophikcgkcaa.X Go.Proofs.Ythldophikcgkcaa.PSr

def encU (x : U) : List Value := [.bool x.f0, .string x.f1, .int .i64 x.f2, .int .i64 x.f3]
def flatU (l : List U) : List Value := l.flatMap encU
theorem flatU_len (l : List U) : (flatU l).length = l.length * 4 := by
  induction l with
  | nil => rfl
  | cons t s ih =>
    show (encU t ++ flatU s).length = _
    rw [List.length_append, ih]
    show 4 + s.length * 4 = (s.length + 1) * 4
    omega
theorem flatU_get (l : List U) : ∀ (j i : Nat) (v : Value), j < l.length → (encU (gU l j))[i]? = some v → (flatU l)[j * 4 + i]? = some v := by
  induction l with
  | nil => intro j i v h; simp at h
  | cons t s ih =>
    intro j i v hj hi
    show (encU t ++ flatU s)[j * 4 + i]? = some v
    cases j with
    | zero =>
      have hi7 : i < 4 := (List.getElem?_eq_some_iff.1 hi).1
      rw [List.getElem?_append_left (by show 0 * 4 + i < 4; omega)]
      rw [show 0 * 4 + i = i by omega]
      exact hi
    | succ j =>
      have e : (j + 1) * 4 + i = 4 + (j * 4 + i) := by omega
      rw [e, List.getElem?_append_right (by show 4 ≤ _; omega)]
      have e2 : 4 + (j * 4 + i) - (encU t).length = j * 4 + i := by show 4 + (j * 4 + i) - 4 = _; omega
      rw [e2]
      exact ih j i v (by simpa using hj) (by simpa [gU] using hi)
theorem flatU_inv (l : List U) : ∀ (j : Nat) (v : Value), (flatU l)[j]? = some v → ∃ k i, j = k * 4 + i ∧ k < l.length ∧ (encU (gU l k))[i]? = some v := by
  induction l with
  | nil => intro j v h; simp [flatU] at h
  | cons t s ih =>
    intro j v h
    have h' : (encU t ++ flatU s)[j]? = some v := h
    rcases Nat.lt_or_ge j 4 with hj | hj
    · rw [List.getElem?_append_left (by show j < 4; omega)] at h'
      exact ⟨0, j, by omega, by simp, h'⟩
    · rw [List.getElem?_append_right (by show 4 ≤ j; omega)] at h'
      obtain ⟨k, i, e, hk, hv⟩ := ih (j - 4) v h'
      exact ⟨k + 1, i, by omega, by simpa using hk, by simpa [gU] using hv⟩
theorem flatU_one (l : List U) : ∀ u ∈ flatU l, u.oneCell' = true := by
  intro u hu
  obtain ⟨t, _, h⟩ := List.mem_flatMap.1 hu
  simp only [encU, List.mem_cons, List.not_mem_nil, or_false] at h
  rcases h with rfl | rfl | rfl | rfl <;> rfl
theorem add_zero_ (g j : Nat) : (⟨g, 0, none⟩ : Addr).add j = ⟨g, j, none⟩ := by
  unfold Addr.add
  split <;> simp <;> omega
/-- A slice of uses that may be handed in. -/
structure ArgU (w : World) (A : Option Addr) (c : Nat) (l : List U) : Prop where
  a : (A = none ∧ l = []) ∨ ∃ g, A = some ⟨g, 0, none⟩ ∧ g < w.heap.size
  r : RowU w A l
theorem ArgU.below {w w' : World} {A : Option Addr} {c : Nat} {l : List U} (h : ArgU w A c l) (hb : Below w.heap.size w w') : ArgU w' A c l :=
  ⟨by
    rcases h.a with h | ⟨g, h1, h2⟩
    · exact Or.inl h
    · exact Or.inr ⟨g, h1, Nat.lt_of_lt_of_le h2 hb.size⟩, h.r.keep (below_cells hb) hb.size⟩
theorem row_of_flat {w : World} {g : Nat} {l : List U} (hg : g < w.heap.size) (h : ∀ j u, (flatU l)[j]? = some u → w.cell? ⟨g, j, none⟩ = some u) : RowU w (some ⟨g, 0, none⟩) l := by
  intro k hk
  exact ⟨⟨g, 0, none⟩, rfl, hg, by rw [add_zero_]; exact h _ _ (flatU_get l k 0 _ hk rfl), by rw [add_zero_]; exact h _ _ (flatU_get l k 1 _ hk rfl), by rw [add_zero_]; exact h _ _ (flatU_get l k 2 _ hk rfl), by rw [add_zero_]; exact h _ _ (flatU_get l k 3 _ hk rfl)⟩
theorem flat_of_row {w : World} {g : Nat} {l : List U} (h : RowU w (some ⟨g, 0, none⟩) l) : ∀ j u, (flatU l)[j]? = some u → w.cell? ⟨g, j, none⟩ = some u := by
  intro j u hj
  obtain ⟨k, i, rfl, hk, hi⟩ := flatU_inv l j u hj
  obtain ⟨ad, e, _, h0, h1, h2, h3⟩ := h k hk
  injection e with e
  subst e
  rw [add_zero_] at h0 h1 h2 h3
  match i, hi with
  | 0, hi => injection hi with hi; rw [← hi]; exact h0
  | 1, hi => injection hi with hi; rw [← hi]; exact h1
  | 2, hi => injection hi with hi; rw [← hi]; exact h2
  | 3, hi => injection hi with hi; rw [← hi]; exact h3
theorem arg_of_R {w : World} {base : Nat} {ok : Nat → Prop} {v : Value} {l : List U} (h : Kd.R k40 40 w base ok v l) : ∃ A c, v = .slice A l.length c ∧ l.length ≤ c ∧ ArgU w A c l := by
  obtain ⟨A, c, rfl, hc, hC⟩ := Kd.R_reads h
  refine ⟨A, c, rfl, hc, ?_, rowU_of hC⟩
  obtain ⟨_, inner, ho, hr⟩ := h
  rcases ho.2 with ⟨h0, hz⟩ | ⟨g, cap, cur, hv', hB, hcur, _⟩
  · injection h0 with h1 h2 h3
    exact Or.inl ⟨h1, List.eq_nil_of_length_eq_zero hz⟩
  · injection hv' with h1 h2 h3
    exact Or.inr ⟨g, h1, (Array.getElem?_eq_some_iff.1 hcur).1⟩
set_option maxRecDepth 100000 in
theorem clone_u (w : World) (A : Option Addr) (c : Nat) (l : List U) (h : ArgU w A c l) (hl : l.length ≤ 30) :
    Calls Try.prog 37 #[.slice A l.length c] w fun e w' => ∃ A' c', e = .returned (.slice A' l.length c') ∧ RowU w' A' l ∧ Below w.heap.size w w' := by
  rcases h.a with ⟨rfl, rfl⟩ | ⟨g, rfl, hg⟩
  · refine (AnyE.slices_Clone_nil clone_Use 0 c w).mono ?_
    rintro e w' ⟨rfl, rfl⟩
    exact ⟨none, 0, rfl, h.r, Below.refl _ _⟩
  · obtain ⟨i0, hi0, hzz⟩ := Option.map_eq_some_iff.1 (show (Try.prog.info? 40).map (fun i => (i.zero, i.size, i.bytes)) = some (some (.agg #[.bool false, .string ⟨#[]⟩, .int .i64 0, .int .i64 0]), 4, 40) by kernel_rfl)
    simp only [Prod.mk.injEq] at hzz
    obtain ⟨hz0, hz1, hz2⟩ := hzz
    refine (AnyE.slices_Clone clone_Use i0 _ 4 40 hi0 hz0 hz1 hz2 rfl (by decide) Try.sizeOf40 g 0 l.length c (flatU l) w (flatU_len l) (by simp only [maxLen]; omega) (by omega)
      (fun j u hj => by rw [show 0 + j = j by omega]; exact flat_of_row h.r j u hj) (flatU_one l)).mono ?_
    rintro e w' ⟨v', rfl, ho, hv, hb⟩
    have ho' : w'.ownsRow w.heap.size 40 4 v' l.length (flatU l) := ho
    rcases ho'.2 with ⟨h0, _⟩ | ⟨g2, cap, cur, hv', hB, hcur, hncap, hmax, hsz, htake⟩
    · exact absurd h0 hv
    · subst hv'
      refine ⟨some ⟨g2, 0, none⟩, cap, rfl, row_of_flat (Array.getElem?_eq_some_iff.1 hcur).1 (fun j u hj => ?_), hb⟩
      have : w'.cell? ⟨g2, j, none⟩ = cur[j]? := cell_of_row w' g2 j cur _ _ hcur
      rw [this]
      rw [← htake] at hj
      have hj' : j < l.length * 4 := by
        have := (List.getElem?_eq_some_iff.1 hj).1
        rw [List.length_take] at this
        omega
      rw [List.getElem?_take_of_lt hj'] at hj
      simpa using hj
theorem KM.below {w w1 w2 : World} {g : Nat} (h : KM w1 w2 g) (hb : Below w.heap.size w w1) (hg : w.heap.size ≤ g) : Below w.heap.size w w2 :=
  ⟨h.os.trans hb.os, h.tape.trans hb.tape, h.output.trans hb.output, Nat.le_trans hb.size h.size, fun j hj => (h.block j (Nat.lt_of_lt_of_le hj hb.size) (by omega)).trans (hb.block j hj)⟩
set_option maxHeartbeats 4000000 in
set_option maxRecDepth 100000 in
theorem order_n (w : World) (A : Option Addr) (c : Nat) (l : List U) (v : ByteArray) (h : ArgU w A c l) (hl : l.length ≤ 12) (hv : Vals l) (hs : v.size ≤ 1000) :
    Calls Try.prog 17 #[.slice A l.length c, .string v] w fun e w' => TellsB e (Ord l 0 v) ∧ Below w.heap.size w w' := by
  have hmm := @run_makeMap Try.prog
  have HC := Lib.hid (clone_u w A c l h (by omega))
  clear h
  have hl2 : ¬ ((12 : Int) < (l.length : Int)) := by omega
  go_enter Try.func17, Try.ntmps17
  go_wp2_with fail
  refine HC.out.mono ?_
  rintro e1 W1 ⟨A', c', rfl, hR, hB⟩
  have HR := Lib.hid (And.intro hR hB)
  clear hR hB HC
  go_wp2_with fail
  have F0 : FM ((W1.alloc (.map #[] 0)).alloc (.cells #[.slice A' l.length c', .map (some W1.heap.size)] 89)) (W1.heap.size + 1) W1.heap.size A' c' l (fun _ => False) := by
    refine ⟨⟨?_, ?_⟩, ?_⟩
    · have := heap_alloc_new (W1.alloc (.map #[] 0)) (.cells #[.slice A' l.length c', .map (some W1.heap.size)] 89)
      simpa using this
    · exact HR.out.1.keep (below_cells (below_alloc (below_alloc (Below.refl _ _) _) _)) (by simp; omega)
    · refine (MapIs.made W1 _ _ _).same ?_
      rw [heap_alloc_old _ _ (by simp)]
  have B0 : Below w.heap.size w ((W1.alloc (.map #[] 0)).alloc (.cells #[.slice A' l.length c', .map (some W1.heap.size)] 89)) := below_alloc (below_alloc HR.out.2 _) _
  have hsz := HR.out.2.size
  clear HR
  generalize (W1.alloc (.map #[] 0)).alloc (.cells #[.slice A' l.length c', .map (some W1.heap.size)] 89) = W2 at *
  refine (from_n (W1.heap.size + 1) W1.heap.size A' c' l (by omega) hv (2 ^ l.length) 0 v (fun _ => False) W2 (Nat.sub_le _ _) (Nat.two_pow_pos _) hs F0 (fun q h => absurd h id)).mono ?_
  rintro e2 W3 ⟨S', hF, hK, hcase⟩
  have hBB := hK.below B0 hsz
  clear hF hK F0 B0
  rcases hcase with ⟨rfl, hO⟩ | ⟨rfl, hno, _⟩
  · have HH := Lib.hid (And.intro hO hBB)
    clear hO hBB
    go_wp2
    go_ret
    exact ⟨tells_true HH.out.1, HH.out.2⟩
  · have HH := Lib.hid (And.intro hno hBB)
    clear hno hBB
    go_wp2
    go_ret
    exact ⟨tells_false HH.out.1, HH.out.2⟩
end Go.Proofs.Ythldophikcgkcaa.Y
