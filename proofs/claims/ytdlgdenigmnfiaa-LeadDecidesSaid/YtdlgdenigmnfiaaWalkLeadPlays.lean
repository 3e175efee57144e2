/- tarnlaw18.LeadPlays: the law's walk. -/
import Derived.Test.YtdlgdenigmnfiaaLeadAwake
import Derived.Test.YtdlgdenigmnfiaaPLeadPx0
import Derived.Test.YtdlgdenigmnfiaaNum
namespace Go.Proofs.Ytdlgdenigmnfiaa.Y
set_option linter.unusedVariables false
set_option linter.unusedSimpArgs false
open Go.RowKit Go.Shelf Go.Proofs Go.Sort Go.IntWalk Go.Proofs.YtdlgdenigmnfiaaW.PrintWords Go.Proofs.YtdlgdenigmnfiaaW.PrintLast Go.Proofs.YtdlgdenigmnfiaaW.PrintMore Go.Proofs.Ytdlgdenigmnfiaa.X Go.Proofs.Ytdlgdenigmnfiaa.PLeadP

def arC (m : Fin 3 → Int) : Array Value := #[.int .i64 (m 0), .int .i64 (m 1), .int .i64 (m 2)]
def AB (w : World) (g : Nat) (m : Fin 3 → Int) : Prop := w.heap[g]? = some (.cells (arC m) 25 (0, 0))
theorem AB.c {w : World} {g : Nat} {m : Fin 3 → Int} (h : AB w g m) (k : Fin 3) : w.cell? ⟨g, k.val, none⟩ = some (.int .i64 (m k)) := by
  simp only [World.cell?, show w.heap[g]? = _ from h]
  match k with
  | 0 => rfl
  | 1 => rfl
  | 2 => rfl
theorem AB.frz {w : World} {g : Nat} {m : Fin 3 → Int} (h : AB w g m) (k : Nat) : w.frozen? ⟨g, k, none⟩ = false := blk_frozen h k
theorem AB.below {w w' : World} {g : Nat} {m : Fin 3 → Int} (h : AB w g m) (hb : Below w.heap.size w w') : AB w' g m := (hb.block _ (blk_lt h)).trans h
theorem AB.set {w : World} {g : Nat} {m : Fin 3 → Int} (h : AB w g m) (k : Fin 3) (v : Int) : AB (w.setCell ⟨g, k.val, none⟩ (.int .i64 v)) g (up3 m k v) := by
  refine blk_put h _ _ ?_
  match k with
  | 0 => rfl
  | 1 => rfl
  | 2 => rfl
theorem AB.far {w : World} {g g' i : Nat} {m : Fin 3 → Int} {v : Value} (h : AB w g m) (hne : g ≠ g') : AB (w.setCell ⟨g', i, none⟩ v) g m := blk_far h (p := ⟨g', i, none⟩) hne v
/-- What the law holds: the leader, and what it should know. -/
structure LP (w wr : World) (gx gm gn : Nat) (m n : Fin 3 → Int) : Prop where
  x : LB wr gx m n
  am : AB wr gm m
  an : AB wr gn n
  b : Below w.heap.size w wr
  lx : w.heap.size ≤ gx
  lm : w.heap.size ≤ gm
  ln : w.heap.size ≤ gn
  xm : gm ≠ gx
  xn : gn ≠ gx
  mn : gm ≠ gn
  i : ∀ k, 0 ≤ m k ∧ m k ≤ 63 ∧ m k < n k ∧ n k ≤ 64
theorem LP.below {w wr w' : World} {gx gm gn : Nat} {m n : Fin 3 → Int} (h : LP w wr gx gm gn m n) (hb : Below wr.heap.size wr w') : LP w w' gx gm gn m n :=
  ⟨h.x.below hb, h.am.below hb, h.an.below hb, below_step h.b hb, h.lx, h.lm, h.ln, h.xm, h.xn, h.mn, h.i⟩
theorem LP.drew {w wr : World} {gx gm gn : Nat} {m n : Fin 3 → Int} (h : LP w wr gx gm gn m n) : LP w wr.drew gx gm gn m n := h.below (below_drew1 (Below.refl _ _))
/-- The leader was told: the arrays are as they were. -/
structure LQ (w wr : World) (gx gm gn : Nat) (m n m' n' : Fin 3 → Int) : Prop where
  x : LB wr gx m' n'
  am : AB wr gm m
  an : AB wr gn n
  b : Below w.heap.size w wr
  lx : w.heap.size ≤ gx
  lm : w.heap.size ≤ gm
  ln : w.heap.size ≤ gn
  xm : gm ≠ gx
  xn : gn ≠ gx
  mn : gm ≠ gn
theorem AB.keep {w w' : World} {g x : Nat} {m : Fin 3 → Int} (h : AB w g m) (k : KB w w' x) (hne : g ≠ x) : AB w' g m := (k.block _ (blk_lt h) hne).trans h
theorem LP.told {w wr w' : World} {gx gm gn : Nat} {m n m' n' : Fin 3 → Int} (h : LP w wr gx gm gn m n) (hL : LB w' gx m' n') (k : KB wr w' gx) : LQ w w' gx gm gn m n m' n' :=
  ⟨hL, h.am.keep k h.xm, h.an.keep k h.xn, k.below w h.b h.lx, h.lx, h.lm, h.ln, h.xm, h.xn, h.mn⟩
theorem LQ.same {w wr : World} {gx gm gn : Nat} {m n : Fin 3 → Int} (h : LQ w wr gx gm gn m n m n) (hi : ∀ k, 0 ≤ m k ∧ m k ≤ 63 ∧ m k < n k ∧ n k ≤ 64) : LP w wr gx gm gn m n := ⟨h.x, h.am, h.an, h.b, h.lx, h.lm, h.ln, h.xm, h.xn, h.mn, hi⟩
theorem LQ.setm {w wr : World} {gx gm gn : Nat} {m n m' n' : Fin 3 → Int} (h : LQ w wr gx gm gn m n m' n') (k : Fin 3) (v : Int) : LQ w (wr.setCell ⟨gm, k.val, none⟩ (.int .i64 v)) gx gm gn (up3 m k v) n m' n' :=
  ⟨blk_far h.x (p := ⟨gm, k.val, none⟩) (Ne.symm h.xm) _, h.am.set k v, h.an.far (Ne.symm h.mn), below_set h.b h.lm, h.lx, h.lm, h.ln, h.xm, h.xn, h.mn⟩
theorem LQ.setn {w wr : World} {gx gm gn : Nat} {m n m' n' : Fin 3 → Int} (h : LQ w wr gx gm gn m n m' n') (k : Fin 3) (v : Int) : LQ w (wr.setCell ⟨gn, k.val, none⟩ (.int .i64 v)) gx gm gn m (up3 n k v) m' n' :=
  ⟨blk_far h.x (p := ⟨gn, k.val, none⟩) (Ne.symm h.xn) _, h.am.far h.mn, h.an.set k v, below_set h.b h.ln, h.lx, h.lm, h.ln, h.xm, h.xn, h.mn⟩
theorem LQ.below {w wr w' : World} {gx gm gn : Nat} {m n m' n' : Fin 3 → Int} (h : LQ w wr gx gm gn m n m' n') (hb : Below wr.heap.size wr w') : LQ w w' gx gm gn m n m' n' :=
  ⟨h.x.below hb, h.am.below hb, h.an.below hb, below_step h.b hb, h.lx, h.lm, h.ln, h.xm, h.xn, h.mn⟩
/-- The two arrays are laid. -/
def arr2 (W : World) : World := (W.alloc (.cells (arC fun _ => 0) 25)).alloc (.cells (arC fun _ => 0) 25)
theorem arr2_m (W : World) : AB (arr2 W) W.heap.size fun _ => 0 := by
  unfold arr2 AB
  rw [heap_alloc_old _ _ (by simp)]
  exact heap_alloc_new W _
theorem arr2_n (W : World) : AB (arr2 W) (W.heap.size + 1) fun _ => 0 := by
  have := heap_alloc_new (W.alloc (.cells (arC fun _ => 0) 25)) (.cells (arC fun _ => 0) 25)
  unfold arr2 AB
  simpa using this
theorem AB.sets {w : World} {g : Nat} {m : Fin 3 → Int} (h : AB w g m) (m' : Fin 3 → Int) : AB (sets w g 0 (arC m').toList) g m' :=
  blk_put (blk_put (blk_put h 0 _ rfl) 1 _ rfl) 2 _ rfl
theorem AB.sets_far {w : World} {g g' : Nat} {m : Fin 3 → Int} (h : AB w g m) (m' : Fin 3 → Int) (hne : g ≠ g') : AB (X.sets w g' 0 (arC m').toList) g m := ((h.far hne).far hne).far hne
theorem below_sets {w w' : World} {g : Nat} (m' : Fin 3 → Int) (h : Below w.heap.size w w') (hg : w.heap.size ≤ g) : Below w.heap.size w (sets w' g 0 (arC m').toList) := below_set (below_set (below_set h hg) hg) hg
/-- An act is laid into a new block. -/
theorem sets_act (W : World) (a b : Int) (c : Bool) : (sets (W.alloc (.cells #[.int .i64 0, .int .i64 0, .bool false] 27)) W.heap.size 0 [.int .i64 a, .int .i64 b, .bool c]).heap[W.heap.size]? = some (.cells #[.int .i64 a, .int .i64 b, .bool c] 27 (0, 0)) ∧ Below W.heap.size W (sets (W.alloc (.cells #[.int .i64 0, .int .i64 0, .bool false] 27)) W.heap.size 0 [.int .i64 a, .int .i64 b, .bool c]) :=
  ⟨blk_put (blk_put (blk_put (heap_alloc_new W _) 0 _ rfl) 1 _ rfl) 2 _ rfl, below_set (below_set (below_set (below_alloc (Below.refl _ _) _) (Nat.le_refl _)) (Nat.le_refl _)) (Nat.le_refl _)⟩
set_option maxHeartbeats 16000000 in
set_option maxRecDepth 100000 in
theorem walk_plays (last : Int) (A : Option Addr) (c : Nat) (l : List S27) (w : World) (hr : Kd.C k27 w A l.length l) (hc : l.length ≤ c) :
    Calls Try.prog 3 #[.int .i64 last, .slice A l.length c] w fun e w' => e = .returned (.bool true) ∧ Below w.heap.size w w' := by
  have HR := Lib.hid (And.intro hr (Below.refl w.heap.size w))
  clear hr
  obtain ⟨n0, h31, b0, b1⟩ : ∃ n0, Go.bits .and .i64 last 31 = n0 ∧ 0 ≤ n0 ∧ n0 ≤ 31 := ⟨_, rfl, by rw [and_31]; omega, by rw [and_31]; omega⟩
  have s1 : wrap64 (n0 + 1) = n0 + 1 := wrap64_in _ ⟨by omega, by omega⟩
  go_enter Try.func3, Try.ntmps3
  go_wp2_with fail
  refine (new_n n0 w b0 (by omega)).mono ?_
  rintro e W1 ⟨gx, rfl, hgx, hL, hb⟩
  have HX := Lib.hid (And.intro hgx (And.intro hL hb))
  clear hgx hL hb
  go_wp2_with (first | ((with_reducible apply wpList_store_sets (ty := 25) (g := W1.heap.size) (t := 25) (old := arC fun _ => 0)); (case hgd => with_reducible rfl); (case ho => with_reducible rfl); (case hx => rfl); (case hy => rfl); (case hg => exact arr2_m W1); (case hi => kernel_rfl); (case hold => kernel_rfl); (case h1 => kernel_rfl)) | ((with_reducible apply wpList_store_sets (ty := 25) (g := W1.heap.size + 1) (t := 25) (old := arC fun _ => 0)); (case hgd => with_reducible rfl); (case ho => with_reducible rfl); (case hx => rfl); (case hy => rfl); (case hg => exact (arr2_n W1).sets_far (fun _ => 0) (by omega)); (case hi => kernel_rfl); (case hold => kernel_rfl); (case h1 => kernel_rfl)))
  have L0 : LP w (sets (sets (arr2 W1) W1.heap.size 0 (arC fun _ => 0).toList) (W1.heap.size + 1) 0 (arC fun _ => n0 + 1).toList) gx W1.heap.size (W1.heap.size + 1) (fun _ => 0) (fun _ => n0 + 1) := by
    obtain ⟨hgx, hL, hb⟩ := HX.out
    have hs := hb.size
    have hl := hL.lt
    have hbb : Below W1.heap.size W1 (sets (sets (arr2 W1) W1.heap.size 0 (arC fun _ => 0).toList) (W1.heap.size + 1) 0 (arC fun _ => n0 + 1).toList) := below_sets _ (below_sets _ (below_alloc (below_alloc (Below.refl _ _) _) _) (Nat.le_refl _)) (by omega)
    refine ⟨hL.below hbb, ?_, ?_, below_step hb hbb, hgx, hs, by omega, by omega, by omega, by omega, fun k => ⟨by omega, by omega, by omega, by omega⟩⟩
    · exact ((arr2_m W1).sets _).sets_far _ (by omega)
    · exact ((arr2_n W1).sets_far _ (by omega)).sets _
  have H0 := Lib.hid L0
  clear HX L0
  unfold arr2 arC at H0
  go_loopw [9] (fun v wr => ∃ (i : Nat) (m n : Fin 3 → Int), i ≤ l.length ∧ v = .int .i64 (i : Int) ∧ LP w wr gx W1.heap.size (W1.heap.size + 1) m n) (fun v => fun _ => l.length - (intOf v).toNat)
  case atStart => exact ⟨0, fun _ => 0, fun _ => n0 + 1, Nat.zero_le _, rfl, H0.out⟩
  case round =>
    obtain ⟨i, m, n, hi, rfl, hL⟩ := hrel
    clear H0
    by_cases c1 : (i : Int) < (l.length : Int)
    · by_cases c2 : (i : Int) < 60
      · obtain ⟨ad, rfl, k0, k1, k2⟩ := at_T27 (Kd.C_below HR.out.1 hL.b) (i : Int) (by omega) c1
        rw [Int.toNat_natCast] at k0 k1 k2
        have hi0 : (0 : Int) ≤ (i : Int) := by omega
        have s2 : wrap64 ((i : Int) + 1) = (i : Int) + 1 := wrap64_in _ ⟨by omega, by omega⟩
        generalize rd_T27 l (i : Int) = x at k0 k1 k2
        obtain ⟨who, at_, no⟩ := x
        obtain ⟨a, ha, a0, a1⟩ : ∃ a, Go.bits .and .i64 at_ 63 = a ∧ 0 ≤ a ∧ a ≤ 63 := ⟨_, rfl, by rw [and_63]; omega, by rw [and_63]; omega⟩
        obtain ⟨q1, q2⟩ := sets_act wr who at_ no
        have e0 := blk_cell q1 0
        have e1 := blk_cell q1 1
        have e2 := blk_cell q1 2
        have hL2 := hL.below q2
        have HL2 := Lib.hid (And.intro hL2 (And.intro q1 (show wr.heap.size ≠ gx by have := hL.x.lt; omega)))
        clear q1 q2 hL2 hL
        go_upto_region 8 with (first | ((with_reducible apply wpList_store_sets (ty := 27) (g := wr.heap.size) (t := 27) (old := #[.int .i64 0, .int .i64 0, .bool false])); (case hgd => with_reducible rfl); (case ho => with_reducible rfl); (case hx => rfl); (case hy => rfl); (case hg => exact heap_alloc_new wr _); (case hi => kernel_rfl); (case hold => kernel_rfl); (case h1 => kernel_rfl)))
        generalize sets (wr.alloc (.cells #[.int .i64 0, .int .i64 0, .bool false] 27)) wr.heap.size 0 [.int .i64 who, .int .i64 at_, .bool no] = W2 at *
        go_cut [12] (fun v wc => v = .bool (decide (0 ≤ who) && decide (who < 3)) ∧ wc = W2)
        case first =>
          by_cases h1 : 0 ≤ who
          · by_cases h2 : who < 3
            · go_wp2
              go_meet
              case rel => exact ⟨by rw [decide_eq_true h1]; first | (rw [decide_eq_true (p := who < 3) (by omega)]; rfl) | (rw [decide_eq_false (p := who < 3) (by omega)]; rfl), rfl⟩
            · go_wp2
              go_meet
              case rel => exact ⟨by rw [decide_eq_true h1]; first | (rw [decide_eq_true (p := who < 3) (by omega)]; rfl) | (rw [decide_eq_false (p := who < 3) (by omega)]; rfl), rfl⟩
          · go_wp2
            go_meet
            case rel => exact ⟨by rw [decide_eq_false (p := 0 ≤ who) (by omega)]; rfl, rfl⟩
        case rest =>
          obtain ⟨rfl, hw⟩ := hcut
          subst hw
          go_upto_block 2 with (fail)
          go_cut [12] (fun _ wc => ∃ (m' : Fin 3 → Int) (n' : Fin 3 → Int), LP w wc gx W1.heap.size (W1.heap.size + 1) m' n')
          case first =>
            by_cases hin : 0 ≤ who ∧ who < 3
            · obtain ⟨kf, rfl⟩ : ∃ kf : Fin 3, (kf.val : Int) = who := ⟨⟨who.toNat, by omega⟩, by simp; omega⟩
              have h1 : (0 : Int) ≤ (kf.val : Int) := by omega
              have h2 : (kf.val : Int) < 3 := by omega
              cases no with
              | true =>
                go_wp2_with fail
                refine (no_n gx m n kf wc HL2.out.1.x (HL2.out.1.i kf).1 (by have := HL2.out.1.i kf; omega) (by have := HL2.out.1.i kf; omega) (by have := HL2.out.1.i kf; omega)).mono ?_
                rintro e W3 ⟨rfl, hL3, hk⟩
                have hq := HL2.out.1.told hL3 hk
                have hblk : W3.heap[wr.heap.size]? = some (.cells #[.int .i64 (kf.val : Int), .int .i64 at_, .bool true] 27 (0, 0)) := (hk.block _ (blk_lt HL2.out.2.1) HL2.out.2.2).trans HL2.out.2.1
                clear e0 e1 e2
                have e0 := blk_cell hblk 0
                have cm := hq.am.c kf
                have cn := hq.an.c kf
                have fn := hq.an.frz kf.val
                have bn := HL2.out.1.i
                have t1 : wrap64 (n kf - 1) = n kf - 1 := wrap64_in _ ⟨by have := bn kf; omega, by have := bn kf; omega⟩
                have t2 : wrap64 (m kf + 1) = m kf + 1 := wrap64_in _ ⟨by have := bn kf; omega, by have := bn kf; omega⟩
                have HQ := Lib.hid (And.intro hq bn)
                clear hq bn hL3 hk hblk HL2
                generalize hmk : m kf = mk at cm t2
                generalize hnk : n kf = nk at cn t1
                go_wp2
                go_region
                all_goals go_wp2
                go_meet
                case rel =>
                  obtain ⟨hq, bn⟩ := HQ.out
                  refine ⟨m, up3 n kf (max (n kf - 1) (m kf + 1)), LP.below (LQ.same ?_ ?_) (below_drew1 (Below.refl _ _))⟩
                  · rw [hmk, hnk] at hq ⊢
                    exact hq.setn kf _
                  · intro k
                    have b1 := bn k
                    have b2 := bn kf
                    by_cases h : k = kf
                    · subst h; rw [up3_eq]; omega
                    · rw [up3_ne _ _ _ _ h]; exact b1
              | false =>
                go_wp2_with fail
                refine (yes_n gx m n kf a wc HL2.out.1.x (by omega) (by omega) (by have := HL2.out.1.i kf; omega) (by have := HL2.out.1.i kf; omega)).mono ?_
                rintro e W3 ⟨rfl, hL3, hk⟩
                have hq := HL2.out.1.told hL3 hk
                have hblk : W3.heap[wr.heap.size]? = some (.cells #[.int .i64 (kf.val : Int), .int .i64 at_, .bool false] 27 (0, 0)) := (hk.block _ (blk_lt HL2.out.2.1) HL2.out.2.2).trans HL2.out.2.1
                clear e0 e1 e2
                have e0 := blk_cell hblk 0
                have cm := hq.am.c kf
                have bn := HL2.out.1.i
                have t1 : wrap64 (a + 1) = a + 1 := wrap64_in _ ⟨by omega, by omega⟩
                by_cases cgt : a > m kf
                · have fm := hq.am.frz kf.val
                  have cn := hq.an.c kf
                  have fn := hq.an.frz kf.val
                  have fn2 := ((hq.setm kf a).an.frz kf.val)
                  have fm2 := ((hq.setn kf (max (n kf) (a + 1))).am.frz kf.val)
                  have HQ := Lib.hid (And.intro hq bn)
                  have hne1 : wr.heap.size ≠ W1.heap.size := fun e => by
                    have h := hq.am
                    unfold AB at h
                    rw [← e, hblk] at h
                    injection h with h
                    injection h with _ h
                    exact absurd h (by decide)
                  have hne2 : wr.heap.size ≠ W1.heap.size + 1 := fun e => by
                    have h := hq.an
                    unfold AB at h
                    rw [← e, hblk] at h
                    injection h with h
                    injection h with _ h
                    exact absurd h (by decide)
                  have hne3 := hne1.symm
                  have hne4 := hne2.symm
                  have hy1 : yesM m kf a = up3 m kf a := by unfold yesM; rw [if_pos cgt]
                  have hy2 : yesN m n kf a = up3 n kf (max (n kf) (a + 1)) := by unfold yesN; rw [if_pos cgt]
                  have HY := Lib.hid (And.intro hy1 hy2)
                  clear hq bn hL3 hk hblk HL2 hy1 hy2
                  generalize hmk : m kf = mk at cm cgt
                  generalize hnk : n kf = nk at cn fm2
                  go_wp2
                  go_region
                  all_goals go_wp2
                  go_meet
                  case rel =>
                    obtain ⟨hq, bn⟩ := HQ.out
                    rw [HY.out.1, HY.out.2] at hq
                    refine ⟨up3 m kf a, up3 n kf (max (n kf) (a + 1)), LP.below (LQ.same ?_ ?_) (below_drew1 (Below.refl _ _))⟩
                    · rw [hnk] at hq ⊢
                      exact (hq.setm kf a).setn kf _
                    · intro k
                      have b1 := bn k
                      have b2 := bn kf
                      by_cases h : k = kf
                      · subst h; rw [up3_eq, up3_eq]; omega
                      · rw [up3_ne _ _ _ _ h, up3_ne _ _ _ _ h]; exact b1
                · have hy1 : yesM m kf a = m := by unfold yesM; rw [if_neg cgt]
                  have hy2 : yesN m n kf a = n := by unfold yesN; rw [if_neg cgt]
                  rw [hy1, hy2] at hq
                  have HQ := Lib.hid (hq.same bn)
                  clear hq bn hL3 hk hblk HL2 hy1 hy2
                  generalize m kf = mk at cm cgt
                  go_wp2
                  go_meet
                  case rel => exact ⟨m, n, HQ.out⟩
            · have hno := no_out (some ⟨gx, 0, none⟩) who wc hin
              have hyes := yes_out (some ⟨gx, 0, none⟩) who a wc hin
              have hd : (decide (0 ≤ who) && decide (who < 3)) = false := by
                by_cases h1 : 0 ≤ who
                · rw [decide_eq_false (p := who < 3) (fun h => hin ⟨h1, h⟩), Bool.and_false]
                · rw [decide_eq_false h1, Bool.false_and]
              rw [hd]
              have HNO := Lib.hid hno
              have HYES := Lib.hid hyes
              clear hno hyes hd
              cases no with
              | true =>
                go_wp2_with fail
                refine HNO.out.mono ?_
                rintro e W3 ⟨rfl, hw⟩
                subst hw
                go_wp2
                go_meet
                case rel => exact ⟨m, n, HL2.out.1⟩
              | false =>
                go_wp2_with fail
                refine HYES.out.mono ?_
                rintro e W3 ⟨rfl, hw⟩
                subst hw
                go_wp2
                go_meet
                case rel => exact ⟨m, n, HL2.out.1⟩
          case rest =>
            obtain ⟨m', n', hL'⟩ := hcut
            have H0 := Lib.hid hL'
            clear hL' HL2 e0 e1 e2 k0 k1 k2 ha
            go_wp2
            go_loopw [13] (fun v wk => ∃ k : Nat, k ≤ 3 ∧ v = .int .i64 (k : Int) ∧ LP w wk gx W1.heap.size (W1.heap.size + 1) m' n') (fun v => fun _ => 3 - (intOf v).toNat)
            case atStart => exact ⟨0, by omega, rfl, H0.out⟩
            case round =>
              obtain ⟨k, hk, rfl, hLk⟩ := hrel
              clear H0
              by_cases c3 : (k : Int) < 3
              · obtain ⟨kf, rfl⟩ : ∃ kf : Fin 3, kf.val = k := ⟨⟨k, by omega⟩, rfl⟩
                have h1 : (0 : Int) ≤ (kf.val : Int) := by omega
                have HLK := Lib.hid hLk
                have cm := hLk.am.c kf
                have cn := hLk.an.c kf
                have bi := hLk.i kf
                have hma := fun W (h : LP w W gx W1.heap.size (W1.heap.size + 1) m' n') => match_n gx m' n' kf W h.x
                have hnx := fun W (h : LP w W gx W1.heap.size (W1.heap.size + 1) m' n') => next_n gx m' n' kf W h.x
                have HMA := Lib.hid hma
                have HNX := Lib.hid hnx
                clear hma hnx
                obtain ⟨mk, hmk⟩ : ∃ mk, m' kf = mk := ⟨_, rfl⟩
                obtain ⟨nk, hnk⟩ : ∃ nk, n' kf = nk := ⟨_, rfl⟩
                rw [hmk] at cm HMA bi
                rw [hnk] at cn HNX bi
                clear hmk hnk
                have hcmp : ¬ (nk ≤ mk) := by omega
                go_wp2
                go_region_held3 (fun w' => LP w w' gx W1.heap.size (W1.heap.size + 1) m' n' ∧ w'.cell? ⟨W1.heap.size, kf.val, none⟩ = some (.int .i64 mk) ∧ w'.cell? ⟨W1.heap.size + 1, kf.val, none⟩ = some (.int .i64 nk)) (((try go_split_ands); refine ⟨by first | assumption | (apply LP.drew; assumption), ?_, ?_⟩ <;> go_keep)) (first | (go_at_call 12; refine (HMA.out _ ?h).mono ?_; (case h => go_split_ands; assumption); rintro e w' ⟨rfl, rfl⟩) | (go_at_call 13; refine (HNX.out _ ?h).mono ?_; (case h => go_split_ands; assumption); rintro e w' ⟨rfl, rfl⟩))
                go_wp2
                go_roundw
                case rel => exact ⟨kf.val + 1, by omega, by go_num, LP.drew HLK.out⟩
                case measure => simp [intOf]; omega
              · obtain rfl : k = 3 := by omega
                have HLK := Lib.hid hLk
                clear hLk
                go_wp2
                go_roundw
                case rel => exact ⟨i + 1, m', n', by omega, by go_num, HLK.out⟩
                case measure => simp [intOf]; omega
      · have HAW := Lib.hid (awake_n wr)
        have HL := Lib.hid hL
        clear hL
        go_wp2_with fail
        refine HAW.out.mono ?_
        rintro e W4 ⟨rfl, hb⟩
        have hb4 := (HL.out.below hb).b
        clear HL HAW hb
        have hm3 := Lib.hid (match_out (some ⟨gx, 0, none⟩) 3 W4 (by decide))
        have hn1 := Lib.hid (next_out (some ⟨gx, 0, none⟩) (-1) W4 (by decide))
        go_wp2_with fail
        refine hm3.out.mono ?_
        rintro e W5 ⟨rfl, hw⟩
        subst hw
        go_wp2_with fail
        refine hn1.out.mono ?_
        rintro e W6 ⟨rfl, hw⟩
        subst hw
        go_wp2
        go_ret
        exact ⟨rfl, hb4⟩
    · have HAW := Lib.hid (awake_n wr)
      have HL := Lib.hid hL
      clear hL
      go_wp2_with fail
      refine HAW.out.mono ?_
      rintro e W4 ⟨rfl, hb⟩
      have hb4 := (HL.out.below hb).b
      clear HL HAW hb
      have hm3 := Lib.hid (match_out (some ⟨gx, 0, none⟩) 3 W4 (by decide))
      have hn1 := Lib.hid (next_out (some ⟨gx, 0, none⟩) (-1) W4 (by decide))
      go_wp2_with fail
      refine hm3.out.mono ?_
      rintro e W5 ⟨rfl, hw⟩
      subst hw
      go_wp2_with fail
      refine hn1.out.mono ?_
      rintro e W6 ⟨rfl, hw⟩
      subst hw
      go_wp2
      go_ret
      exact ⟨rfl, hb4⟩
end Go.Proofs.Ytdlgdenigmnfiaa.Y
namespace Go.Proofs.Ytdlgdenigmnfiaa.X
open Go.RowKit Go.Proofs.YtdlgdenigmnfiaaW.PrintWords Go.Proofs.Ytdlgdenigmnfiaa.PLeadP
def tarnlaw18_LeadPlays.f (_a0 : Int) (_l1 : List S27) : Option Bool := some true
theorem tarnlaw18_LeadPlays.calls (a0 : Int) (A1 : Option Addr) (c1 : Nat) (l1 : List S27) (r : Bool) (w : World) (hr1 : Kd.C k27 w A1 l1.length l1) (hc1 : l1.length ≤ c1) (h : tarnlaw18_LeadPlays.f a0 l1 = some r) :
    Calls Try.prog 3 #[.int .i64 a0, .slice A1 l1.length c1] w fun e w' => e = .returned (.bool r) ∧ Below w.heap.size w w' := by
  obtain rfl := Option.some.inj h
  exact Y.walk_plays a0 A1 c1 l1 w hr1 hc1
end Go.Proofs.Ytdlgdenigmnfiaa.X
