/- place.kept: the nodes of a list that are up. -/
import Derived.Test.YthldophikcgkcaaXGen
import Derived.Test.YthldophikcgkcaaPick
import Derived.Test.YthldophikcgkcaaPlacePure
import Derived.Shelf.SlicesE.Clone
import Derived.Shelf.SlicesE.DeleteFunc
import Derived.Lib.SliceRun
namespace Go.Proofs.Ythldophikcgkcaa.Y
set_option linter.unusedVariables false
set_option linter.unusedSimpArgs false
open Go.RowKit Go.Shelf Go.Proofs Go.Sort Go.Lib Go.Proofs.YthldophikcgkcaaW.PrintWords Go.Proofs.YthldophikcgkcaaW.PrintLast Go.Proofs.YthldophikcgkcaaW.PrintMore Go.Proofs.Ythldophikcgkcaa.X Go.Proofs.Ythldophikcgkcaa.PPlace

/-- Is a number a node that is up? -/
def upB (up : Fin 5 → Bool) (x : Int) : Bool := if h : 0 ≤ x ∧ x < 5 then up ⟨x.toNat, by omega⟩ else false
theorem upB_n (up : Fin 5 → Bool) (k : Fin 5) : upB up (k.val : Int) = up k := by
  unfold upB
  rw [dif_pos (by omega)]
  congr 1
theorem up_cell (up : Fin 5 → Bool) (g : Nat) (w : World) (hb : w.heap[g]? = some (.cells (upCells up) 25 (0, 0))) (x : Fin 5) : w.cell? ⟨g, x.val, none⟩ = some (.bool (up x)) := by
  simp only [World.cell?, hb]
  match x with
  | 0 => rfl
  | 1 => rfl
  | 2 => rfl
  | 3 => rfl
  | 4 => rfl
set_option maxHeartbeats 2000000 in
set_option maxRecDepth 100000 in
theorem node_n (x : Int) (w : World) : Calls Try.prog 58 #[.int .i64 x] w fun e w' => e = .returned (.bool (decide (0 ≤ x) && decide (x < 5))) ∧ w' = w := by
  go_enter Try.func58, Try.ntmps58
  by_cases h1 : 0 ≤ x
  · rw [decide_eq_true h1]
    by_cases h2 : x < 5
    · rw [decide_eq_true h2]
      go_wp2
      all_goals (go_ret; exact ⟨by first | rfl | simp_all, rfl⟩)
    · rw [decide_eq_false h2]
      go_wp2
      all_goals (go_ret; exact ⟨by first | rfl | (simp; omega) | simp_all, rfl⟩)
  · rw [decide_eq_false h1]
    go_wp2
    all_goals (go_ret; exact ⟨by first | rfl | (simp; omega) | simp_all, rfl⟩)
set_option maxHeartbeats 2000000 in
set_option maxRecDepth 100000 in
theorem kept_gives (up : Fin 5 → Bool) (B : Nat) (x : Int) (W : World) (hb : W.heap[B]? = some (.cells (upCells up) 25 (0, 0))) :
    FnGives Try.prog 57 #[.pointer (some ⟨B, 0, none⟩)] #[.int .i64 x] (.bool (!upB up x)) W := by
  show Calls Try.prog 57 #[.int .i64 x, .pointer (some ⟨B, 0, none⟩)] W _
  have HN := Lib.hid (node_n x W)
  by_cases h : 0 ≤ x ∧ x < 5
  · obtain ⟨k, rfl⟩ : ∃ k : Fin 5, (k.val : Int) = x := ⟨⟨x.toNat, by omega⟩, by simp; omega⟩
    rw [upB_n, decide_eq_true h.1, decide_eq_true h.2] at *
    have h1 := h.1
    have h2 := h.2
    have hc := up_cell up B W hb k
    clear hb h
    generalize up k = b at hc ⊢
    go_enter Try.func57, Try.ntmps57
    go_wp2_with fail
    refine HN.out.mono ?_
    rintro e W1 ⟨rfl, hw⟩
    subst hw
    go_wp2
    go_ret
    exact ⟨by cases b <;> rfl, 0, rfl⟩
  · have hu : upB up x = false := by unfold upB; rw [dif_neg h]
    have hd : (decide (0 ≤ x) && decide (x < 5)) = false := by
      by_cases h1 : 0 ≤ x
      · rw [decide_eq_false (p := x < 5) (fun h2 => h ⟨h1, h2⟩), Bool.and_false]
      · rw [decide_eq_false h1, Bool.false_and]
    rw [hu]
    rw [hd] at HN
    clear hb h hu hd
    go_enter Try.func57, Try.ntmps57
    go_wp2_with fail
    refine HN.out.mono ?_
    rintro e W1 ⟨rfl, hw⟩
    subst hw
    go_wp2
    go_ret
    exact ⟨rfl, 0, rfl⟩
theorem kept_at (up : Fin 5 → Bool) (B : Nat) (w : World) (hb : w.heap[B]? = some (.cells (upCells up) 25 (0, 0))) :
    PredAt Try.prog 57 #[.pointer (some ⟨B, 0, none⟩)] (Value.int .i64) (fun x => !upB up x) w :=
  fun W x hB => kept_gives up B x W ((hB.block _ (blk_lt hb)).trans hb)
theorem kept_over (up : Fin 5 → Bool) (B blk size : Nat) (w : World) (hne : B ≠ blk) (hb : w.heap[B]? = some (.cells (upCells up) 25 (0, 0))) :
    PredOver Try.prog 57 #[.pointer (some ⟨B, 0, none⟩)] (Value.int .i64) (fun x => !upB up x) blk 0 size w :=
  fun m os dk x hdk => kept_gives up B x _ (by
    rw [heap_sortWorld _ _ _ _ _ _ _ (blk_lt hb) hne]; exact hb)
set_option maxHeartbeats 2000000 in
set_option maxRecDepth 100000 in
theorem del_nil (fv : Value) (w : World) : Calls Try.prog 55 #[.slice none 0 0, fv] w fun e w' => e = .returned (.slice none 0 0) ∧ w' = w := by
  have hI : ∀ w, Calls Try.prog 70 #[.slice none 0 0, fv] w fun e w' => e = .returned (.int .i64 (-1)) ∧ w' = w := fun w => AnyE.slices_IndexFunc_empty idx_int none 0 fv w
  have HI := Lib.hid hI
  clear hI
  go_enter Try.func55, Try.ntmps55
  go_wp2_with fail
  refine (HI.out _).mono ?_
  rintro e w' ⟨rfl, hw⟩
  subst hw
  go_wp2
  go_ret
  exact ⟨rfl, rfl⟩
set_option maxHeartbeats 2000000 in
set_option maxRecDepth 100000 in
theorem clone_any (W : World) (B : Nat) (ok : Nat → Prop) (v : Value) (m : List Int) (hR : Kd.R X.KI 3 W B ok v m) (hl : m.length ≤ 1000) : Calls Try.prog 56 #[v] W fun e w' => ∃ v', e = .returned v' ∧ Kd.R X.KI 3 w' W.heap.size (fun _ => True) v' m ∧ Below W.heap.size W w' := by
  rcases (Kd.own_of_R hR).2 with ⟨rfl, h0⟩ | ⟨g, cap, cur, rfl, hgB, hcur, hncap, hmax, hsz, htake⟩
  · have hm : m = [] := List.eq_nil_of_length_eq_zero h0
    subst hm
    refine (AnyE.slices_Clone_nil clone0_int 0 0 W).mono ?_
    rintro e w' ⟨rfl, hw⟩
    subst hw
    exact ⟨_, rfl, Kd.R_nil _ _ _ _ _, Below.refl _ _⟩
  · rw [Nat.mul_one] at htake
    refine (AnyG.slices_Clone_int clone_int g 0 m.length cap m W (Nat.le_refl _) (by omega) (fun j hj => ?_)).mono ?_
    · rw [show 0 + j = j by omega, cell_of_row W g j cur _ _ hcur]
      have e2 : (encs (Value.int .i64) m)[j]? = some (.int .i64 (m.getD j 0)) := by
        rw [List.getD_eq_getElem?_getD, List.getElem?_eq_getElem hj]
        simp [encs, hj]
      rw [← htake, List.getElem?_take_of_lt hj] at e2
      simpa using e2
    · rintro e w' ⟨v, rfl, ho, _, hb⟩
      rw [List.take_length] at ho
      exact ⟨v, rfl, Kd.R_of_own (enc := Value.int .i64) ho (fun _ _ => trivial), hb⟩
set_option maxHeartbeats 2000000 in
set_option maxRecDepth 100000 in
theorem del_any (up : Fin 5 → Bool) (w0 W : World) (b : Nat) (v : Value) (m : List Int) (hup : W.heap[b]? = some (.cells (upCells up) 25 (0, 0))) (hbB : b < w0.heap.size) (hR : Kd.R X.KI 3 W w0.heap.size (fun _ => True) v m) (hB : Below w0.heap.size w0 W) (hl : m.length ≤ 1000) :
    Calls Try.prog 55 #[v, .func (.func 57) #[] #[.pointer (some ⟨b, 0, none⟩)]] W fun e w' => ∃ v', e = .returned v' ∧ Kd.R X.KI 3 w' w0.heap.size (fun _ => True) v' (m.filter (upB up)) ∧ Below w0.heap.size w0 w' := by
  have hown := Kd.own_of_R hR
  by_cases hv : v = .slice none 0 0
  · subst hv
    rcases hown.2 with ⟨_, h0⟩ | ⟨g, cap, cur, h, _⟩
    · have hm : m = [] := List.eq_nil_of_length_eq_zero h0
      subst hm
      refine (del_nil _ W).mono ?_
      rintro e w' ⟨rfl, hw⟩
      subst hw
      exact ⟨_, rfl, Kd.R_nil _ _ _ _ _, hB⟩
    · cases h
  · have hown2 : W.ownsRow w0.heap.size 3 1 v m.length (m.map (Value.int .i64)) := hown
    obtain ⟨g, cap, rfl, hbase, hlt, hnc, hmx, hl0, hH⟩ := Lib.holds_of_ownsRow hown2 hv
    have eg : ∀ args w, (callFunc 57 args).run Try.prog w = .ok (.enter 57 args) w := enters_of Try.func57 (by kernel_rfl) rfl
    have hD := AnyE.slices_DeleteFunc del_int (Value.int .i64) (fun _ => rfl) (fun x => !upB up x) 57 #[.pointer (some ⟨b, 0, none⟩)] eg 0 Try.zeroValue3 g 0 cap m.toArray W (kept_at up b W hup) (kept_over up b g _ W (by omega) hup) hH (by simp; omega) (by simpa using hnc)
    have hsz : m.toArray.size = m.length := by simp
    have hf : (m.toArray.toList.filter fun x => !!upB up x) = m.filter (upB up) := by simp
    rw [hsz, hf] at hD
    refine hD.mono ?_
    rintro e w' ⟨rfl, q, rfl⟩
    have hle : (m.filter (upB up)).length ≤ m.length := List.length_filter_le _ _
    have ho := Lib.ownsRow_putRow (q := q) (ys := m.filter (upB up) ++ List.replicate (m.length - (m.filter (upB up)).length) 0) (k := (m.filter (upB up)).length) hown2 (by simp; omega) hle
    rw [List.take_left] at ho
    exact ⟨_, rfl, Kd.R_of_own (enc := Value.int .i64) ho (fun _ _ => trivial), Lib.below_putRow hB hbase⟩
set_option maxHeartbeats 2000000 in
set_option maxRecDepth 100000 in
theorem kept_n (up : Fin 5 → Bool) (W : World) (B : Nat) (ok : Nat → Prop) (v : Value) (m : List Int) (hR : Kd.R X.KI 3 W B ok v m) (hl : m.length ≤ 1000) :
    Calls Try.prog 35 #[v, .agg (upCells up)] W fun e w' => ∃ v', e = .returned v' ∧ Kd.R X.KI 3 w' W.heap.size (fun _ => True) v' (m.filter (upB up)) ∧ Below W.heap.size W w' := by
  have HR := Lib.hid (And.intro (Kd.R_alloc hR (.cells (upCells up) 25)) (And.intro (heap_alloc_new W (.cells (upCells up) 25)) (below_alloc (Below.refl W.heap.size W) (.cells (upCells up) 25))))
  clear hR
  obtain ⟨uc, huc⟩ : ∃ uc, upCells up = uc := ⟨_, rfl⟩
  have huc' := Lib.hid huc
  rw [huc] at HR ⊢
  clear huc
  have hsz : (W.alloc (.cells uc 25)).heap.size = W.heap.size + 1 := by simp
  obtain ⟨W0, hW0⟩ : ∃ W0, W.alloc (.cells uc 25) = W0 := ⟨_, rfl⟩
  rw [hW0] at HR hsz
  go_enter Try.func35, Try.ntmps35
  go_wp2_with fail
  refine (clone_any W0 B ok v m HR.out.1 hl).mono ?_
  rintro e W1 ⟨v1, rfl, hR1, hb1⟩
  have hup : W1.heap[W.heap.size]? = some (.cells (upCells up) 25 (0, 0)) := by
    rw [huc'.out]
    exact (hb1.block _ (by omega)).trans HR.out.2.1
  have HD := Lib.hid (del_any up W0 W1 W.heap.size v1 m hup (by omega) hR1 hb1 hl)
  clear hR1 hb1 hup
  go_wp2_with fail
  refine HD.out.mono ?_
  rintro e W2 ⟨v2, rfl, hR2, hb2⟩
  have hR3 := Kd.R_lower hR2 (base' := W.heap.size) (by omega)
  have hb3 : Below W.heap.size W W2 := below_step HR.out.2.2 hb2
  clear hR2 hb2
  go_wp2
  go_ret
  exact ⟨_, rfl, hR3, hb3⟩
end Go.Proofs.Ythldophikcgkcaa.Y
