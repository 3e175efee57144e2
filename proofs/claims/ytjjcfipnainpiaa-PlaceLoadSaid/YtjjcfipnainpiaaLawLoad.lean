/- tarnlaw41.PlaceLoad: the law's walk. -/
import Derived.Test.YtjjcfipnainpiaaLoad
namespace Go.Proofs.Ytjjcfipnainpiaa.Y
open Go.RowKit Go.Shelf Go.Proofs Go.Sort Go.Proofs.YtjjcfipnainpiaaW.PrintWords Go.Proofs.YtjjcfipnainpiaaW.PrintLast Go.Proofs.YtjjcfipnainpiaaW.PrintMore Go.Proofs.Ytjjcfipnainpiaa.X Go.Proofs.Ytjjcfipnainpiaa.PPlace

def boxZ : Array Value := #[.int .i64 0, .int .i64 0, .int .i64 0, .slice none 0 0, .slice none 0 0]
/-- A configuration is laid into a new block. -/
theorem sets_conf (W : World) (x0 x1 x2 x3 x4 : Value) : (sets (W.alloc (.cells boxZ 61)) W.heap.size 0 [x0, x1, x2, x3, x4]).heap[W.heap.size]? = some (.cells #[x0, x1, x2, x3, x4] 61 (0, 0)) ∧ Below W.heap.size W (sets (W.alloc (.cells boxZ 61)) W.heap.size 0 [x0, x1, x2, x3, x4]) ∧ (sets (W.alloc (.cells boxZ 61)) W.heap.size 0 [x0, x1, x2, x3, x4]).heap.size = W.heap.size + 1 := by
  refine ⟨blk_put (blk_put (blk_put (blk_put (blk_put (heap_alloc_new W _) 0 _ rfl) 1 _ rfl) 2 _ rfl) 3 _ rfl) 4 _ rfl, ?_, ?_⟩
  · exact below_set (below_set (below_set (below_set (below_set (below_alloc (Below.refl _ _) _) (Nat.le_refl _)) (Nat.le_refl _)) (Nat.le_refl _)) (Nat.le_refl _)) (Nat.le_refl _)
  · simp [sets, World.setCell]
theorem sets_ld (W : World) (F : Fin 5 → Int) : (sets (W.alloc (.cells (ldCells fun _ => 0) 63)) W.heap.size 0 (ldCells F).toList).heap[W.heap.size]? = some (.cells (ldCells F) 63 (0, 0)) ∧ Below W.heap.size W (sets (W.alloc (.cells (ldCells fun _ => 0) 63)) W.heap.size 0 (ldCells F).toList) := by
  refine ⟨blk_put (blk_put (blk_put (blk_put (blk_put (heap_alloc_new W _) 0 _ rfl) 1 _ rfl) 2 _ rfl) 3 _ rfl) 4 _ rfl, ?_⟩
  exact below_set (below_set (below_set (below_set (below_set (below_alloc (Below.refl _ _) _) (Nat.le_refl _)) (Nat.le_refl _)) (Nat.le_refl _)) (Nat.le_refl _)) (Nat.le_refl _)
/-- What the law holds: the configuration and what is to do. -/
structure LW (w wr : World) (gx gl : Nat) (bx : Array Value) (f : Fin 5 → Int) (A3 A4 : Option Addr) (m h : List Int) : Prop where
  c : wr.heap[gx]? = some (.cells bx 61 (0, 0))
  o : wr.heap[gl]? = some (.cells (ldCells f) 63 (0, 0))
  r3 : Kd.C X.KI wr A3 m.length m
  r4 : Kd.C X.KI wr A4 h.length h
  b : Below w.heap.size w wr
theorem LW.below {w wr w2 : World} {gx gl : Nat} {bx : Array Value} {f : Fin 5 → Int} {A3 A4 : Option Addr} {m h : List Int} (H : LW w wr gx gl bx f A3 A4 m h) (hb : Below wr.heap.size wr w2) : LW w w2 gx gl bx f A3 A4 m h :=
  ⟨(hb.block _ (blk_lt H.c)).trans H.c, (hb.block _ (blk_lt H.o)).trans H.o, Kd.C_below H.r3 hb, Kd.C_below H.r4 hb, below_step H.b hb⟩
set_option maxHeartbeats 16000000 in
set_option maxRecDepth 100000 in
theorem walk_load (a0 a1 a2 : Int) (A3 : Option Addr) (c3 : Nat) (l3 : List Int) (A4 : Option Addr) (c4 : Nat) (l4 : List Int) (w : World) (h3 : Kd.C X.KI w A3 l3.length l3) (k3 : l3.length ≤ c3) (h4 : Kd.C X.KI w A4 l4.length l4) (k4 : l4.length ≤ c4) :
    Calls Try.prog 7 #[.agg #[.int .i64 a0, .int .i64 a1, .int .i64 a2, .slice A3 l3.length c3, .slice A4 l4.length c4]] w fun e w' => e = .returned (.bool true) ∧ Below w.heap.size w w' := by
  have hu61 := Try.underlying61
  obtain ⟨⟨e, b, c, m, h⟩, hG, hnear⟩ := near_f5 a0 a1 a2 l3 l4
  have hnr := fun W (hb : Below w.heap.size w W) => tarnlaw11_Near.calls 100 a0 a1 a2 A3 c3 l3 A4 c4 l4 5 e b c m h W (Kd.C_below h3 hb) k3 (Kd.C_below h4 hb) k4 (hnear 100 (by omega))
  have HNR := Lib.hid hnr
  clear hnr h3 k3 h4 k4 hnear
  go_enter Try.func7, Try.ntmps7
  go_wp2_with (first | ((with_reducible apply wpList_load_row (ty := 61) (g := w.heap.size) (t := 61) (fr := (0, 0)) (hu := hu61)); (case hgd => with_reducible rfl); (case ho => with_reducible rfl); (case hx => rfl); (case hd => rfl); (case hg => exact heap_alloc_new w _); (case hi => kernel_rfl)))
  refine (HNR.out _ (below_alloc (Below.refl _ _) _)).mono ?_
  rintro e1 W1 ⟨v3, v4, rfl, hR3, hR4, hB1⟩
  have HB1 : Below w.heap.size w W1 := below_step (below_alloc (Below.refl _ _) _) hB1
  clear HNR
  obtain ⟨A3', c3', rfl, k3, C3⟩ := Kd.R_reads hR3
  obtain ⟨A4', c4', rfl, k4, C4⟩ := Kd.R_reads hR4
  have HC := Lib.hid (And.intro k3 (And.intro C3 (And.intro k4 (And.intro C4 (And.intro HB1 hG)))))
  clear hR3 hR4 hB1 k3 C3 k4 C4 HB1 hG
  go_wp2_with (first | ((with_reducible apply wpList_store_sets (ty := 61) (g := W1.heap.size) (t := 61) (old := boxZ)); (case hgd => with_reducible rfl); (case ho => with_reducible rfl); (case hx => rfl); (case hy => rfl); (case hg => exact heap_alloc_new W1 _); (case hi => kernel_rfl); (case hold => kernel_rfl); (case h1 => kernel_rfl)) | ((with_reducible apply wpList_load_row (ty := 61) (g := W1.heap.size) (t := 61) (fr := (0, 0)) (hu := hu61)); (case hgd => with_reducible rfl); (case ho => with_reducible rfl); (case hx => rfl); (case hd => rfl); (case hg => exact (sets_conf W1 _ _ _ _ _).1); (case hi => kernel_rfl)))
  obtain ⟨q1, q2, q3⟩ := sets_conf W1 (.int .i64 e) (.int .i64 b) (.int .i64 c) (.slice A3' m.length c3') (.slice A4' h.length c4')
  unfold boxZ at q1 q2 q3
  generalize sets (W1.alloc (.cells #[.int .i64 0, .int .i64 0, .int .i64 0, .slice none 0 0, .slice none 0 0] 61)) W1.heap.size 0 [.int .i64 e, .int .i64 b, .int .i64 c, .slice A3' m.length c3', .slice A4' h.length c4'] = W2 at q1 q2 q3 ⊢
  obtain ⟨k3, C3, k4, C4, HB1, hG⟩ := HC.out
  clear HC
  have hl3 : m.length ≤ 100 ∧ h.length ≤ 100 := by
    have hg := hG.2.2.2
    unfold listsB at hg
    rw [Bool.and_eq_true] at hg
    have h1 := (nodesB_iff m 0 hg.1).2.2.2
    have h2 := (nodesB_iff h 1 hg.2).2.2.2
    omega
  have HB2 : Below w.heap.size w W2 := below_step HB1 q2
  refine (load_n e b c A3' A4' c3' c4' m h W2 (Kd.C_below C3 q2) k3 (Kd.C_below C4 q2) k4 hl3.1 hl3.2).mono ?_
  rintro e2 W3 ⟨rfl, hB3⟩
  have HB3 : Below w.heap.size w W3 := below_step HB2 hB3
  have HC := Lib.hid (And.intro k3 (And.intro (Kd.C_below (Kd.C_below C3 q2) hB3) (And.intro k4 (And.intro (Kd.C_below (Kd.C_below C4 q2) hB3) (And.intro HB3 (And.intro hl3 ((hB3.block _ (by omega)).trans q1)))))))
  clear k3 C3 k4 C4 HB1 hG hl3 HB2 hB3 HB3 q1 q2 q3
  go_wp2_with (first | ((with_reducible apply wpList_store_sets (ty := 63) (g := W3.heap.size) (t := 63) (old := ldCells fun _ => 0)); (case hgd => with_reducible rfl); (case ho => with_reducible rfl); (case hx => rfl); (case hy => rfl); (case hg => exact heap_alloc_new W3 _); (case hi => kernel_rfl); (case hold => kernel_rfl); (case h1 => kernel_rfl)))
  obtain ⟨q1, q2⟩ := sets_ld W3 (fun i => ldV m h (i.val : Int))
  have L0 : LW w (sets (W3.alloc (.cells (ldCells fun _ => 0) 63)) W3.heap.size 0 (ldCells fun i => ldV m h (i.val : Int)).toList) W1.heap.size W3.heap.size #[.int .i64 e, .int .i64 b, .int .i64 c, .slice A3' m.length c3', .slice A4' h.length c4'] (fun i => ldV m h (i.val : Int)) A3' A4' m h :=
    ⟨(q2.block _ (blk_lt HC.out.2.2.2.2.2.2)).trans HC.out.2.2.2.2.2.2, q1, Kd.C_below HC.out.2.1 q2, Kd.C_below HC.out.2.2.2.1 q2, below_step HC.out.2.2.2.2.1 q2⟩
  obtain ⟨k3, _, k4, _, _, hl3, _⟩ := HC.out
  have hl4 := hl3.2
  replace hl3 := hl3.1
  clear HC q1 q2
  have L0' := Lib.hid L0
  clear L0
  go_loopw [5] (fun v wr => ∃ k : Nat, k ≤ 5 ∧ v = .int .i64 (k : Int) ∧ LW w wr W1.heap.size W3.heap.size #[.int .i64 e, .int .i64 b, .int .i64 c, .slice A3' m.length c3', .slice A4' h.length c4'] (fun i => ldV m h (i.val : Int)) A3' A4' m h) (fun v => fun _ => 5 - (intOf v).toNat)
  case atStart => exact ⟨0, by omega, rfl, L0'.out⟩
  case round =>
    obtain ⟨k, hk, rfl, hL⟩ := hrel
    clear L0'
    by_cases c5 : (k : Int) < 5
    · obtain ⟨kf, hkf⟩ : ∃ kf : Fin 5, kf.val = k := ⟨⟨k, by omega⟩, rfl⟩
      have hc4 := blk_cell hL.c 4
      have hc3 := blk_cell hL.c 3
      replace hc4 : wr.cell? ⟨W1.heap.size, 4, none⟩ = some (.slice A4' h.length c4') := hc4
      replace hc3 : wr.cell? ⟨W1.heap.size, 3, none⟩ = some (.slice A3' m.length c3') := hc3
      have HL := Lib.hid hL
      clear hL
      go_wp2_with fail
      refine (tarnlaw41_has.calls 200 A4' c4' h _ (hasB (k : Int) h) _ HL.out.r4 k4 (law_has_f (k : Int) h (by omega) 200 (by omega))).mono ?_
      rintro e3 W4 ⟨rfl, hD⟩
      have hL4 := HL.out.below hD.below
      clear hc3 hc4 hD HL
      have hc3 := blk_cell hL4.c 3
      replace hc3 : W4.cell? ⟨W1.heap.size, 3, none⟩ = some (.slice A3' m.length c3') := hc3
      have HL := Lib.hid hL4
      clear hL4
      cases hbh : hasB (k : Int) h with
      | false =>
        go_wp2_with fail
        refine (tarnlaw41_has.calls 200 A3' c3' m _ (hasB (k : Int) m) _ HL.out.r3 k3 (law_has_f (k : Int) m (by omega) 200 (by omega))).mono ?_
        rintro e4 W5 ⟨rfl, hD⟩
        have hL5 := HL.out.below hD.below
        clear hc3 hD HL
        have hcl := ld_cell _ _ _ hL5.o kf
        rw [hkf] at hcl
        have HL := Lib.hid hL5
        clear hL5
        cases hbm : hasB (k : Int) m with
        | false =>
          have hv : ldV m h (k : Int) = 0 := by unfold ldV; rw [hbh, hbm]; rfl
          rw [hv] at hcl
          go_wp2
          go_roundw
          case rel => exact ⟨k + 1, by omega, by go_num, HL.out⟩
          case measure => simp [intOf]; omega
        | true =>
          have hv : ldV m h (k : Int) = 1 := by unfold ldV; rw [hbh, hbm]; rfl
          rw [hv] at hcl
          go_wp2
          go_roundw
          case rel => exact ⟨k + 1, by omega, by go_num, HL.out⟩
          case measure => simp [intOf]; omega
      | true =>
        go_wp2_with fail
        refine (tarnlaw41_has.calls 200 A3' c3' m _ (hasB (k : Int) m) _ HL.out.r3 k3 (law_has_f (k : Int) m (by omega) 200 (by omega))).mono ?_
        rintro e4 W5 ⟨rfl, hD⟩
        have hL5 := HL.out.below hD.below
        clear hc3 hD HL
        have hcl := ld_cell _ _ _ hL5.o kf
        rw [hkf] at hcl
        have HL := Lib.hid hL5
        clear hL5
        cases hbm : hasB (k : Int) m with
        | false =>
          have hv : ldV m h (k : Int) = 2 := by unfold ldV; rw [hbh, hbm]; rfl
          rw [hv] at hcl
          go_wp2
          go_roundw
          case rel => exact ⟨k + 1, by omega, by go_num, HL.out⟩
          case measure => simp [intOf]; omega
        | true =>
          have hv : ldV m h (k : Int) = 3 := by unfold ldV; rw [hbh, hbm]; rfl
          rw [hv] at hcl
          go_wp2
          go_roundw
          case rel => exact ⟨k + 1, by omega, by go_num, HL.out⟩
          case measure => simp [intOf]; omega
    · have HAW := Lib.hid (awake_n wr)
      have HL := Lib.hid hL
      clear hL
      go_wp2_with fail
      refine HAW.out.mono ?_
      rintro e5 W6 ⟨rfl, hB⟩
      have hb6 := (HL.out.below hB).b
      clear hB
      go_wp2
      go_ret
      exact ⟨rfl, hb6⟩
end Go.Proofs.Ytjjcfipnainpiaa.Y
namespace Go.Proofs.Ytjjcfipnainpiaa.X
open Go.RowKit Go.Proofs.YtjjcfipnainpiaaW.PrintWords
def tarnlaw41_PlaceLoad.f (_a0_0 _a0_1 _a0_2 : Int) (_l0_3 _l0_4 : List Int) : Option Bool := some true
theorem tarnlaw41_PlaceLoad.calls (a0_0 a0_1 a0_2 : Int) (A0_3 : Option Addr) (c0_3 : Nat) (l0_3 : List Int) (A0_4 : Option Addr) (c0_4 : Nat) (l0_4 : List Int) (r : Bool) (w : World) (hr0_3 : Kd.C (Kd.int .i64) w A0_3 l0_3.length l0_3) (hc0_3 : l0_3.length ≤ c0_3) (hr0_4 : Kd.C (Kd.int .i64) w A0_4 l0_4.length l0_4) (hc0_4 : l0_4.length ≤ c0_4) (h : tarnlaw41_PlaceLoad.f a0_0 a0_1 a0_2 l0_3 l0_4 = some r) :
    Calls Try.prog 7 #[.agg #[.int .i64 a0_0, .int .i64 a0_1, .int .i64 a0_2, .slice A0_3 l0_3.length c0_3, .slice A0_4 l0_4.length c0_4]] w fun e w' => e = .returned (.bool r) ∧ Below w.heap.size w w' := by
  obtain rfl := Option.some.inj h
  exact Y.walk_load a0_0 a0_1 a0_2 A0_3 c0_3 l0_3 A0_4 c0_4 l0_4 w hr0_3 hc0_3 hr0_4 hc0_4
end Go.Proofs.Ytjjcfipnainpiaa.X
