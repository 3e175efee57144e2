/- tarnlaw18.awake: true. -/
import Derived.Test.YtdlgdenigmnfiaaLeadPure
namespace Go.Proofs.Ytdlgdenigmnfiaa.Y
set_option linter.unusedVariables false
set_option linter.unusedSimpArgs false
open Go.RowKit Go.Shelf Go.Proofs Go.Sort Go.IntWalk Go.Proofs.YtdlgdenigmnfiaaW.PrintWords Go.Proofs.YtdlgdenigmnfiaaW.PrintLast Go.Proofs.YtdlgdenigmnfiaaW.PrintMore Go.Proofs.Ytdlgdenigmnfiaa.X

/-- A log whose blocks lie ahead of a place. -/
def LGB (w : World) (g : Nat) (ts : List Int) (B : Nat) : Prop :=
  ∃ h cap, w.heap[g]? = some (.cells #[.int .i64 0, .int .i64 0, .slice (some ⟨h, 0, none⟩) ts.length cap] 86 (0, 0)) ∧ h < w.heap.size ∧ ts.length ≤ cap ∧
    (∀ j t, ts[j]? = some t → w.cell? ⟨h, j * 7, none⟩ = some (.int .i64 t)) ∧ h < B ∧ g < B
theorem LG.b {w : World} {g : Nat} {ts : List Int} (h : LG w g ts) : LGB w g ts w.heap.size := by
  have hl := h.lt
  obtain ⟨x, cap, h1, h2, h3, h4⟩ := h
  exact ⟨x, cap, h1, h2, h3, h4, h2, hl⟩
theorem LGB.l {w : World} {g B : Nat} {ts : List Int} (h : LGB w g ts B) : LG w g ts := by
  obtain ⟨x, cap, h1, h2, h3, h4, _, _⟩ := h
  exact ⟨x, cap, h1, h2, h3, h4⟩
theorem LGB.below {w w' : World} {g B : Nat} {ts : List Int} (h : LGB w g ts B) (hb : Below w.heap.size w w') : LGB w' g ts B := by
  obtain ⟨x, cap, h1, h2, h3, h4, h5, h6⟩ := h
  refine ⟨x, cap, (hb.block _ (blk_lt h1)).trans h1, Nat.lt_of_lt_of_le h2 hb.size, h3, fun j t hj => ?_, h5, h6⟩
  rw [hb.cell (p := ⟨x, j * 7, none⟩) h2]
  exact h4 j t hj
theorem LGB.keep {w w' : World} {g B x : Nat} {ts : List Int} (h : LGB w g ts B) (k : KB w w' x) (hx : B ≤ x) : LGB w' g ts B := by
  obtain ⟨r, cap, h1, h2, h3, h4, h5, h6⟩ := h
  refine ⟨r, cap, (k.block _ (blk_lt h1) (by omega)).trans h1, Nat.lt_of_lt_of_le h2 k.size, h3, fun j t hj => ?_, h5, h6⟩
  have := h4 j t hj
  simp only [World.cell?] at this ⊢
  rw [k.block r h2 (by omega)]
  exact this
theorem cells_of (w : World) (b : Nat) (cs : Array Value) (t : TypeId) (h : w.heap[b]? = some (.cells cs t (0, 0))) : ∀ j u, cs.toList[j]? = some u → w.cell? ⟨b, j, none⟩ = some u := by
  intro j u hj
  rw [cell_of_row w b j cs t _ h]
  simpa using hj
set_option maxHeartbeats 4000000 in
set_option maxRecDepth 100000 in
theorem awake_n (w : World) : Calls Try.prog 14 #[] w fun e w' => e = .returned (.bool true) ∧ Below w.heap.size w w' := by
  have HW := Lib.hid (Below.refl w.heap.size w)
  have HN := Lib.hid (rnew_n [1, 1, 1] (by intro t ht; simp at ht; subst ht; rfl) (by decide) w.heap.size 3 (w.alloc (.cells (flatE [1, 1, 1]).toArray 40)) (by decide) (by simp) (by
    have := cells_of _ _ _ _ (heap_alloc_new w (.cells (flatE [1, 1, 1]).toArray 40))
    simp only [List.toList_toArray] at this
    exact this))
  go_enter Try.func14, Try.ntmps14
  go_wp2_with fail
  refine HN.out.mono ?_
  rintro e W1 ⟨g, rfl, hG, hg, hb⟩
  have hb1 : Below w.heap.size w W1 := below_step (below_alloc HW.out _) hb
  clear hb HN
  go_wp2_with fail
  refine (new_n 3 W1 (by decide) (by decide)).mono ?_
  rintro e W2 ⟨x, rfl, hx, hL, hb⟩
  have hG2 := hG.b.below hb
  have hb2 := below_step hb1 hb
  have hxw : w.heap.size ≤ x := Nat.le_trans hb1.size hx
  have HX := Lib.hid (And.intro hG2 (And.intro hL (And.intro hb2 (And.intro hxw hx))))
  clear hb hb1 hG hx hG2 hb2 hxw hL
  go_wp2_with fail
  refine (yes_n x _ _ 0 3 W2 HX.out.2.1 (by decide) (by decide) (by decide) (by decide)).mono ?_
  rintro e W3 ⟨rfl, hL, hk⟩
  have HX3 := Lib.hid (And.intro (HX.out.1.keep hk HX.out.2.2.2.2) (And.intro hL (And.intro (hk.below w HX.out.2.2.1 HX.out.2.2.2.1) (And.intro HX.out.2.2.2.1 HX.out.2.2.2.2))))
  clear HX hL hk
  go_wp2_with fail
  refine (yes_n x _ _ 1 2 W3 HX3.out.2.1 (by decide) (by decide) (by decide) (by decide)).mono ?_
  rintro e W4 ⟨rfl, hL, hk⟩
  have HX4 := Lib.hid (And.intro (HX3.out.1.keep hk HX3.out.2.2.2.2) (And.intro hL (hk.below w HX3.out.2.2.1 HX3.out.2.2.2.1)))
  clear HX3 hL hk
  have em : mid3 (yesM (yesM (fun _ => 0) 0 3) 1 2) = 2 := mid_eq _ 2 (by decide) (by decide)
  have ed : decV (yesM (yesM (fun _ => 0) 0 3) 1 2) [1, 1, 1] 1 0 = 2 := by unfold decV; rw [em]; rfl
  have en : yesN (yesM (fun _ => 0) 0 3) (yesN (fun _ => 0) (fun _ => 3 + 1) 0 3) 1 2 1 = 4 := by decide
  have ek : yesM (yesM (fun _ => 0) 0 3) 1 2 1 = 2 := by decide
  have hdec := decided_n _ _ [1, 1, 1] x g 1 0 W4 HX4.out.2.1 HX4.out.1.l (by decide) (by decide)
  rw [ed] at hdec
  have HD := Lib.hid hdec
  clear hdec
  go_wp2_with fail
  refine HD.out.mono ?_
  rintro e W5 ⟨rfl, hb⟩
  have hL5 := HX4.out.2.1.below hb
  have hb5 := below_step HX4.out.2.2 hb
  have hne := next_n x _ _ 1 W5 hL5
  have hma := match_n x _ _ 1 W5 hL5
  rw [en] at hne
  rw [ek] at hma
  have HNE := Lib.hid hne
  have HMA := Lib.hid hma
  clear hb hL5 hne hma HD HX4
  go_wp2_with fail
  refine HNE.out.mono ?_
  rintro e W6 ⟨rfl, hw⟩
  subst hw
  go_wp2_with fail
  refine HMA.out.mono ?_
  rintro e W7 ⟨rfl, hw⟩
  subst hw
  go_wp2
  go_ret
  exact ⟨rfl, hb5⟩
end Go.Proofs.Ytdlgdenigmnfiaa.Y
