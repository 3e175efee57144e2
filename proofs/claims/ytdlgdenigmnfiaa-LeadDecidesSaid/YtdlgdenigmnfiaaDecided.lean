/- lead: Decided, and the law's awake. -/
import Derived.Test.YtdlgdenigmnfiaaLead
import Derived.Test.YtdlgdenigmnfiaaRlogZ
import Derived.Test.YtdlgdenigmnfiaaSortOwn
import Derived.Shelf.SlicesG.Clone
namespace Go.Proofs.Ytdlgdenigmnfiaa.Y
set_option linter.unusedVariables false
set_option linter.unusedSimpArgs false
open Go.RowKit Go.Shelf Go.Proofs Go.Sort Go.IntWalk Go.Proofs.YtdlgdenigmnfiaaW.PrintWords Go.Proofs.YtdlgdenigmnfiaaW.PrintLast Go.Proofs.YtdlgdenigmnfiaaW.PrintMore Go.Proofs.Ytdlgdenigmnfiaa.X

/-- The middle one of three. -/
def mid3 (m : Fin 3 → Int) : Int := ((([m 0, m 1, m 2] : List Int).mergeSort fun x y => decide (x ≤ y))[1]?).getD 0
def decV (m : Fin 3 → Int) (ts : List Int) (term was : Int) : Int := if mid3 m > was then (if termOf ts (mid3 m) = term then mid3 m else was) else was
set_option maxHeartbeats 4000000 in
set_option maxRecDepth 100000 in
theorem clone3 (m n : Fin 3 → Int) (g : Nat) (w : World) (h : LB w g m n) : Calls Try.prog 37 #[.slice (some ⟨g, 0, none⟩) 3 3] w fun e w' => ∃ v, e = .returned v ∧ Kd.R (Kd.int .i64) 3 w' w.heap.size (fun _ => True) v [m 0, m 1, m 2] ∧ Below w.heap.size w w' := by
  refine (AnyG.slices_Clone_int clone_int g 0 3 3 [m 0, m 1, m 2] w (Nat.le_refl _) (by omega) (fun j hj => ?_)).mono ?_
  · have hj' : j < 3 := hj
    have hc := h.m ⟨j, hj'⟩
    rw [show (0 + j) = j by omega]
    have e : ([m 0, m 1, m 2] : List Int).getD j 0 = m ⟨j, hj'⟩ := by
      match j, hj' with
      | 0, _ => rfl
      | 1, _ => rfl
      | 2, _ => rfl
    rw [e]
    exact hc
  · rintro e w' ⟨v, rfl, ho, _, hb⟩
    exact ⟨v, rfl, Kd.R_of_own (enc := Value.int .i64) ho (fun _ _ => trivial), hb⟩
theorem R_cell {W : World} {B : Nat} {v : Value} {L : List Int} (h : Kd.R (Kd.int .i64) 3 W B (fun _ => True) v L) (hp : 0 < L.length) : ∃ g cp, v = .slice (some ⟨g, 0, none⟩) L.length cp ∧ ∀ j x, L[j]? = some x → W.cell? ⟨g, j, none⟩ = some (.int .i64 x) := by
  have hown := Kd.own_of_R h
  rcases hown.2 with ⟨_, h0⟩ | ⟨g, cap, cur, rfl, hgB, hcur, hncap, hmax, hsz, htake⟩
  · omega
  refine ⟨g, cap, rfl, fun j x hj => ?_⟩
  have hj' : j < L.length := (List.getElem?_eq_some_iff.1 hj).1
  rw [Nat.mul_one] at htake
  rw [cell_of_row W g j cur _ _ hcur]
  have e2 : (encs (Value.int .i64) L)[j]? = some (.int .i64 x) := by simp [encs, hj]
  rw [← htake, List.getElem?_take_of_lt hj'] at e2
  simpa using e2
set_option maxHeartbeats 4000000 in
set_option maxRecDepth 100000 in
theorem decided_n (m n : Fin 3 → Int) (ts : List Int) (g gl : Nat) (term was : Int) (w : World) (h : LB w g m n) (hg : LG w gl ts) (hl : ts.length ≤ 1000) (hw : 0 ≤ was) :
    Calls Try.prog 16 #[.pointer (some ⟨g, 0, none⟩), .pointer (some ⟨gl, 0, none⟩), .int .i64 term, .int .i64 was] w fun e w' => e = .returned (.int .i64 (decV m ts term was)) ∧ Below w.heap.size w w' := by
  have HCL := Lib.hid (clone3 m n g w h)
  have HG := Lib.hid (And.intro hg (Below.refl w.heap.size w))
  clear hg h
  obtain ⟨dv, hdv⟩ : ∃ dv, decV m ts term was = dv := ⟨_, rfl⟩
  rw [hdv]
  unfold decV at hdv
  have HDV := Lib.hid hdv
  clear hdv
  go_enter Try.func16, Try.ntmps16
  go_wp2_with fail
  refine HCL.out.mono ?_
  rintro e W1 ⟨v, rfl, hR, hb⟩
  go_wp2_with fail
  refine (sort_own0 w.heap.size W1 v _ hR (by show 0 < 3; omega) (by show 3 ≤ 1000; omega)).mono ?_
  rintro e W2 ⟨rfl, hR2, hB2⟩
  have hb2 := hB2 w hb hb.size
  have hlen : (([m 0, m 1, m 2] : List Int).mergeSort fun x y => decide (x ≤ y)).length = 3 := List.length_mergeSort _
  obtain ⟨gv, cp, rfl, hcv⟩ := R_cell hR2 (by rw [hlen]; omega)
  rw [hlen]
  have hmid : (([m 0, m 1, m 2] : List Int).mergeSort fun x y => decide (x ≤ y))[1]? = some (mid3 m) := by
    unfold mid3
    rw [List.getElem?_eq_getElem (by omega)]
    rfl
  have hc1 := hcv 1 _ hmid
  have HL := Lib.hid (And.intro (HG.out.1.below hb2) hb2)
  clear hR hb hR2 hB2 hcv hmid hlen HG HCL hb2
  have hdv := HDV.out
  clear HDV
  generalize mid3 m = md at hc1 hdv
  by_cases c : md > was
  · rw [if_pos c] at hdv
    have HT := Lib.hid (term_n ts gl md W2 HL.out.1 hl (by omega))
    generalize termOf ts md = tt at HT hdv
    by_cases c2 : tt = term
    · rw [if_pos c2] at hdv
      subst c2
      subst hdv
      go_wp2_with fail
      refine HT.out.mono ?_
      rintro e W3 ⟨rfl, hb3⟩
      have hb4 := below_step HL.out.2 hb3
      clear hb3
      go_wp2
      go_ret
      exact ⟨rfl, hb4⟩
    · rw [if_neg c2] at hdv
      subst hdv
      go_wp2_with fail
      refine HT.out.mono ?_
      rintro e W3 ⟨rfl, hb3⟩
      have hb4 := below_step HL.out.2 hb3
      clear hb3
      go_wp2
      go_ret
      exact ⟨rfl, hb4⟩
  · rw [if_neg c] at hdv
    subst hdv
    go_wp2
    go_ret
    exact ⟨rfl, HL.out.2⟩
set_option maxHeartbeats 1000000 in
set_option maxRecDepth 100000 in
theorem decided_nil (p : Value) (term was : Int) (w : World) :
    Calls Try.prog 16 #[.pointer none, p, .int .i64 term, .int .i64 was] w fun e w' => e = .returned (.int .i64 was) ∧ w' = w := by
  go_enter Try.func16, Try.ntmps16
  go_wp2
  go_ret
  exact ⟨rfl, rfl⟩
end Go.Proofs.Ytdlgdenigmnfiaa.Y
