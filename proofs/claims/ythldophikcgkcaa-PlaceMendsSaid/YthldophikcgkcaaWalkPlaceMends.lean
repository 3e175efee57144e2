/- tarnlaw41.PlaceMends: the law's walk. -/
import Derived.Test.YthldophikcgkcaaMend
namespace Go.Proofs.Ythldophikcgkcaa.Y
set_option linter.unusedVariables false
set_option linter.unusedSimpArgs false
open Go.RowKit Go.Shelf Go.Proofs Go.Sort Go.IntWalk Go.Proofs.YthldophikcgkcaaW.PrintWords Go.Proofs.YthldophikcgkcaaW.PrintLast Go.Proofs.YthldophikcgkcaaW.PrintMore Go.Proofs.Ythldophikcgkcaa.X Go.Proofs.Ythldophikcgkcaa.PPlace

def boxZ : Array Value := #[.int .i64 0, .int .i64 0, .int .i64 0, .slice none 0 0, .slice none 0 0]
/-- A configuration is laid into a new block. -/
theorem sets_conf (W : World) (x0 x1 x2 x3 x4 : Value) : (sets (W.alloc (.cells boxZ 24)) W.heap.size 0 [x0, x1, x2, x3, x4]).heap[W.heap.size]? = some (.cells #[x0, x1, x2, x3, x4] 24 (0, 0)) ∧ Below W.heap.size W (sets (W.alloc (.cells boxZ 24)) W.heap.size 0 [x0, x1, x2, x3, x4]) ∧ (sets (W.alloc (.cells boxZ 24)) W.heap.size 0 [x0, x1, x2, x3, x4]).heap.size = W.heap.size + 1 := by
  refine ⟨blk_put (blk_put (blk_put (blk_put (blk_put (heap_alloc_new W _) 0 _ rfl) 1 _ rfl) 2 _ rfl) 3 _ rfl) 4 _ rfl, ?_, ?_⟩
  · exact below_set (below_set (below_set (below_set (below_set (below_alloc (Below.refl _ _) _) (Nat.le_refl _)) (Nat.le_refl _)) (Nat.le_refl _)) (Nat.le_refl _)) (Nat.le_refl _)
  · simp [sets, World.setCell]
/-- What the law holds: who is up, the configuration, its lists, and what Mend told. -/
structure LM (w wr : World) (gx : Nat) (bx ux : Array Value) (B B2 : Nat) (ok3 ok4 : Nat → Prop) (v3 v4 : Value) (m h : List Int) (v6 : Value) (M : List Int) (v7 : Value) (L : List Int) : Prop where
  c : wr.heap[gx]? = some (.cells bx 24 (0, 0))
  u : wr.heap[w.heap.size + 1]? = some (.cells ux 25 (0, 0))
  b : Below w.heap.size w wr
  r3 : Kd.R X.KI 3 wr B ok3 v3 m
  r4 : Kd.R X.KI 3 wr B ok4 v4 h
  r6 : Kd.R X.KI 3 wr B2 (fun _ => True) v6 M
  r7 : Kd.R X.KI 3 wr B2 (fun _ => True) v7 L
theorem LM.below {w wr w' : World} {gx : Nat} {bx ux : Array Value} {B B2 : Nat} {ok3 ok4 : Nat → Prop} {v3 v4 v6 v7 : Value} {m h M L : List Int} (H : LM w wr gx bx ux B B2 ok3 ok4 v3 v4 m h v6 M v7 L) (hb : Below wr.heap.size wr w') : LM w w' gx bx ux B B2 ok3 ok4 v3 v4 m h v6 M v7 L :=
  ⟨(hb.block _ (blk_lt H.c)).trans H.c, (hb.block _ (blk_lt H.u)).trans H.u, below_step H.b hb, Kd.R_below H.r3 hb, Kd.R_below H.r4 hb, Kd.R_below H.r6 hb, Kd.R_below H.r7 hb⟩
theorem LM.cells {w wr : World} {gx : Nat} {x0 x1 x2 x3 x4 : Value} {up : Fin 5 → Bool} {B B2 : Nat} {ok3 ok4 : Nat → Prop} {v3 v4 v6 v7 : Value} {m h M L : List Int} (H : LM w wr gx #[x0, x1, x2, x3, x4] (upCells up) B B2 ok3 ok4 v3 v4 m h v6 M v7 L) :
    wr.cell? ⟨gx, 3, none⟩ = some x3 ∧ wr.cell? ⟨gx, 4, none⟩ = some x4 ∧
    wr.cell? ⟨w.heap.size + 1, 0, none⟩ = some (.bool (up 0)) ∧ wr.cell? ⟨w.heap.size + 1, 1, none⟩ = some (.bool (up 1)) ∧ wr.cell? ⟨w.heap.size + 1, 2, none⟩ = some (.bool (up 2)) ∧ wr.cell? ⟨w.heap.size + 1, 3, none⟩ = some (.bool (up 3)) ∧ wr.cell? ⟨w.heap.size + 1, 4, none⟩ = some (.bool (up 4)) :=
  ⟨blk_cell H.c 3, blk_cell H.c 4, up_cell up _ _ H.u 0, up_cell up _ _ H.u 1, up_cell up _ _ H.u 2, up_cell up _ _ H.u 3, up_cell up _ _ H.u 4⟩
set_option maxHeartbeats 16000000 in
set_option maxRecDepth 100000 in
theorem walk_mends (up : Fin 5 → Bool) (a0 a1 a2 : Int) (A3 : Option Addr) (c3 : Nat) (l3 : List Int) (A4 : Option Addr) (c4 : Nat) (l4 : List Int) (w : World) (h3 : Kd.C X.KI w A3 l3.length l3) (k3 : l3.length ≤ c3) (h4 : Kd.C X.KI w A4 l4.length l4) (k4 : l4.length ≤ c4) :
    Calls Try.prog 3 #[.agg #[.int .i64 a0, .int .i64 a1, .int .i64 a2, .slice A3 l3.length c3, .slice A4 l4.length c4], .agg (upCells up)] w fun e w' => e = .returned (.bool true) ∧ Below w.heap.size w w' := by
  have hu24 := Try.underlying24
  obtain ⟨⟨e, b, c, m, h⟩, hG, hnear⟩ := near_f5 a0 a1 a2 l3 l4
  have hnr := fun W (hb : Below w.heap.size w W) => tarnlaw11_Near.calls 100 a0 a1 a2 A3 c3 l3 A4 c4 l4 5 e b c m h W (Kd.C_below h3 hb) k3 (Kd.C_below h4 hb) k4 (hnear 100 (by omega))
  have HNR := Lib.hid hnr
  have hlist : (∀ x ∈ m, 0 ≤ x ∧ x ≤ 4) ∧ m.Nodup ∧ m.length ≤ 3 ∧ (∀ x ∈ h, 0 ≤ x ∧ x ≤ 4) ∧ h.Nodup ∧ h.length ≤ 3 ∧ 1 ≤ h.length := by
    have hg := hG.2.2.2
    unfold listsB at hg
    rw [Bool.and_eq_true] at hg
    have h1 := nodesB_iff m 0 hg.1
    have h2 := nodesB_iff h 1 hg.2
    exact ⟨h1.1, h1.2.1, h1.2.2.2, h2.1, h2.2.1, h2.2.2.2, by omega⟩
  have HLI := Lib.hid hlist
  clear hnr h3 k3 h4 k4 hnear hG hlist
  have hP : ((w.alloc (.cells #[.int .i64 a0, .int .i64 a1, .int .i64 a2, .slice A3 l3.length c3, .slice A4 l4.length c4] 24)).alloc (.cells (upCells up) 25)).heap[w.heap.size]? = some (.cells #[.int .i64 a0, .int .i64 a1, .int .i64 a2, .slice A3 l3.length c3, .slice A4 l4.length c4] 24 (0, 0)) := by
    rw [heap_alloc_old _ _ (by simp)]
    exact heap_alloc_new w _
  have hU : ((w.alloc (.cells #[.int .i64 a0, .int .i64 a1, .int .i64 a2, .slice A3 l3.length c3, .slice A4 l4.length c4] 24)).alloc (.cells (upCells up) 25)).heap[w.heap.size + 1]? = some (.cells (upCells up) 25 (0, 0)) := two_alloc w _ _
  have HP := Lib.hid (And.intro hP hU)
  clear hP hU
  go_enter Try.func3, Try.ntmps3
  go_wp2_with (first | ((with_reducible apply wpList_load_row (ty := 24) (g := w.heap.size) (t := 24) (fr := (0, 0)) (hu := hu24)); (case hgd => with_reducible rfl); (case ho => with_reducible rfl); (case hx => rfl); (case hd => rfl); (case hg => exact HP.out.1); (case hi => kernel_rfl)))
  refine (HNR.out _ (below_alloc (below_alloc (Below.refl _ _) _) _)).mono ?_
  rintro e1 W1 ⟨v3, v4, rfl, hR3, hR4, hB1⟩
  have HB1 : Below w.heap.size w W1 := below_step (below_alloc (below_alloc (Below.refl _ _) _) _) hB1
  have HU1 : W1.heap[w.heap.size + 1]? = some (.cells (upCells up) 25 (0, 0)) := (hB1.block _ (blk_lt HP.out.2)).trans HP.out.2
  clear HNR HP
  obtain ⟨A3', c3', rfl, k3, C3⟩ := Kd.R_reads hR3
  obtain ⟨A4', c4', rfl, k4, C4⟩ := Kd.R_reads hR4
  have HC := Lib.hid (And.intro k3 (And.intro hR3 (And.intro k4 (And.intro hR4 (And.intro HB1 HU1)))))
  clear hR3 hR4 hB1 k3 C3 k4 C4 HB1 HU1
  obtain ⟨q1, q2, q3⟩ := sets_conf W1 (.int .i64 e) (.int .i64 b) (.int .i64 c) (.slice A3' m.length c3') (.slice A4' h.length c4')
  have HQ := Lib.hid (And.intro q1 (And.intro q2 q3))
  clear q1 q2 q3
  go_wp2_with (first | ((with_reducible apply wpList_store_sets (ty := 24) (g := W1.heap.size) (t := 24) (old := boxZ)); (case hgd => with_reducible rfl); (case ho => with_reducible rfl); (case hx => rfl); (case hy => rfl); (case hg => exact heap_alloc_new W1 _); (case hi => kernel_rfl); (case hold => kernel_rfl); (case h1 => kernel_rfl)) | ((with_reducible apply wpList_load_row (ty := 24) (g := W1.heap.size) (t := 24) (fr := (0, 0)) (hu := hu24)); (case hgd => with_reducible rfl); (case ho => with_reducible rfl); (case hx => rfl); (case hd => rfl); (case hg => exact HQ.out.1); (case hi => kernel_rfl)) | ((with_reducible apply wpList_load_row (ty := 25) (g := w.heap.size + 1) (t := 25) (fr := (0, 0)) (hu := Try.underlying25)); (case hgd => with_reducible rfl); (case ho => with_reducible rfl); (case hx => rfl); (case hd => rfl); (case hg => exact (HQ.out.2.1.block _ (blk_lt HC.out.2.2.2.2.2)).trans HC.out.2.2.2.2.2); (case hi => kernel_rfl)))
  unfold boxZ at HQ
  generalize sets (W1.alloc (.cells #[.int .i64 0, .int .i64 0, .int .i64 0, .slice none 0 0, .slice none 0 0] 24)) W1.heap.size 0 [.int .i64 e, .int .i64 b, .int .i64 c, .slice A3' m.length c3', .slice A4' h.length c4'] = W2 at HQ ⊢
  have HR3 := Kd.R_below HC.out.2.1 HQ.out.2.1
  have HR4 := Kd.R_below HC.out.2.2.2.1 HQ.out.2.1
  refine (mend_n up e b c A3' A4' c3' c4' m h W2 _ _ _ HR3 HR4 HLI.out.2.2.1 HLI.out.2.2.2.2.2.1 HLI.out.2.2.2.2.2.2).mono ?_
  rintro e2 W3 ⟨ld, vm, vl, rfl, hRm, hRl, hB3⟩
  have hMm := mended up ld m HLI.out.2.1
  have hMl := mended up ld h HLI.out.2.2.2.2.1
  generalize fillP m.length (m.filter (upB up)) (nums (rk up ld)) = M at *
  generalize fillP h.length (h.filter (upB up)) (nums (rk up ld)) = L at *
  have HB3 : Below w.heap.size w W3 := below_step (below_step HC.out.2.2.2.2.1 HQ.out.2.1) hB3
  have LX : LM w W3 W1.heap.size #[.int .i64 e, .int .i64 b, .int .i64 c, .slice A3' m.length c3', .slice A4' h.length c4'] (upCells up) _ W2.heap.size _ _ (.slice A3' m.length c3') (.slice A4' h.length c4') m h vm M vl L :=
    ⟨(hB3.block _ (blk_lt HQ.out.1)).trans HQ.out.1, ((hB3.block _ (by have := HQ.out.2.1.size; have := blk_lt HC.out.2.2.2.2.2; omega)).trans (HQ.out.2.1.block _ (blk_lt HC.out.2.2.2.2.2))).trans HC.out.2.2.2.2.2, HB3, Kd.R_below HR3 hB3, Kd.R_below HR4 hB3, hRm, hRl⟩
  have HX := Lib.hid LX
  have HM := Lib.hid (And.intro hMm hMl)
  clear LX hMm hMl HC HQ HR3 HR4 hRm hRl hB3 HB3
  obtain ⟨Am, cm, rfl, kmc, _⟩ := Kd.R_reads HX.out.r6
  obtain ⟨Al, cl, rfl, klc, _⟩ := Kd.R_reads HX.out.r7
  go_wp2_with (first | ((with_reducible apply wpList_load_row (ty := 25) (g := w.heap.size + 1) (t := 25) (fr := (0, 0)) (hu := Try.underlying25)); (case hgd => with_reducible rfl); (case ho => with_reducible rfl); (case hx => rfl); (case hd => rfl); (case hg => exact HX.out.u); (case hi => kernel_rfl)))
  refine (many_n up W3).mono ?_
  rintro e3 W4 ⟨rfl, hB4⟩
  have LX := HX.out.below hB4
  clear HX hB4
  have HX := Lib.hid LX
  clear LX
  have hn5 := upTo_len up 5
  have e6 := HM.out.1.len
  have e7 := HM.out.2.len
  obtain ⟨n, hn⟩ : ∃ n, (upTo up 5).length = n := ⟨_, rfl⟩
  rw [hn] at hn5 e6 e7 ⊢
  have HE := Lib.hid (And.intro e6 e7)
  have b6 : M.length ≤ 3 := by have := HLI.out.2.2.1; omega
  have b7 : L.length ≤ 3 := by have := HLI.out.2.2.2.2.2.1; omega
  clear e6 e7
  have b1 := HLI.out.2.2.1
  have b2 := HLI.out.2.2.2.2.2.1
  have b3 := HLI.out.2.2.2.2.2.2
  by_cases hz : n = 0
  · have z6 : M.length = 0 := by have := HE.out.1; omega
    have z7 : L.length = 0 := by have := HE.out.2; omega
    rw [z6, z7]
    go_wp2_with fail
    refine (awake_n W4).mono ?_
    rintro e4 W5 ⟨rfl, hB5⟩
    go_wp2
    go_ret
    exact ⟨rfl, (HX.out.below hB5).b⟩
  · have hz' : ¬ ((n : Int) = 0) := by omega
    go_wp2_with (first | ((with_reducible apply wpList_load_row (ty := 25) (g := w.heap.size + 1) (t := 25) (fr := (0, 0)) (hu := Try.underlying25)); (case hgd => with_reducible rfl); (case ho => with_reducible rfl); (case hx => rfl); (case hd => rfl); (case hg => exact HX.out.u); (case hi => kernel_rfl)))
    refine (good_n up Am cm M W4 (Kd.R_reads' HX.out.r6).2.2 kmc HM.out.1.nd HM.out.1.all (by omega)).mono ?_
    rintro e4 W5 ⟨rfl, hB5⟩
    have LX := HX.out.below hB5
    clear HX hB5
    obtain ⟨q1, q2, q3, q4, q5, q6, q7⟩ := LX.cells
    have HX := Lib.hid LX
    clear LX
    go_wp2_with fail
    refine (good_n up Al cl L W5 (Kd.R_reads' HX.out.r7).2.2 klc HM.out.2.nd HM.out.2.all (by omega)).mono ?_
    rintro e5 W6 ⟨rfl, hB6⟩
    have LX := HX.out.below hB6
    clear HX hB6 q1 q2 q3 q4 q5 q6 q7
    obtain ⟨q1, q2, q3, q4, q5, q6, q7⟩ := LX.cells
    have HX := Lib.hid LX
    clear LX
    have f1 : (L.length : Int) = min (n : Int) (max (h.length : Int) 1) := by have := HE.out.2; omega
    have f2 : (M.length : Int) = min (m.length : Int) (n : Int) := by have := HE.out.1; omega
    have HF := Lib.hid (And.intro f1 f2)
    clear f1 f2
    go_upto_region 7 with (fail)
    all_goals (try (exfalso; obtain ⟨g1, g2⟩ := HF.out; simp only [bne_iff_ne, ne_eq] at *; omega))
    refine (awake_n W6).mono ?_
    rintro e6 W7 ⟨rfl, hB7⟩
    have LX := HX.out.below hB7
    clear HX hB7 q1 q2 q3 q4 q5 q6 q7
    obtain ⟨q1, q2, q3, q4, q5, q6, q7⟩ := LX.cells
    have HX := Lib.hid LX
    clear LX
    go_wp2_with fail
    obtain ⟨t1, ht1⟩ := HM.out.2.ahead
    subst ht1
    refine (stays_n up A4' Al c4' cl h t1 W7 (Kd.R_reads' HX.out.r4).2.2 (Kd.R_reads' HX.out.r4).2.1 (Kd.R_reads' HX.out.r7).2.2 klc (by omega) HLI.out.2.2.2.1 (by omega)).mono ?_
    rintro e7 W8 ⟨rfl, hB8⟩
    have LX := HX.out.below hB8
    clear HX hB8 q1 q2 q3 q4 q5 q6 q7
    obtain ⟨q1, q2, q3, q4, q5, q6, q7⟩ := LX.cells
    have HX := Lib.hid LX
    clear LX
    go_wp2_with fail
    obtain ⟨t2, ht2⟩ := HM.out.1.ahead
    subst ht2
    refine (stays_n up A3' Am c3' cm m t2 W8 (Kd.R_reads' HX.out.r3).2.2 (Kd.R_reads' HX.out.r3).2.1 (Kd.R_reads' HX.out.r6).2.2 kmc (by omega) HLI.out.1 (by omega)).mono ?_
    rintro e8 W9 ⟨rfl, hB9⟩
    have LX := HX.out.below hB9
    clear HX hB9 q1 q2 q3 q4 q5 q6 q7
    have HX := Lib.hid LX
    clear LX
    go_wp2
    go_ret
    exact ⟨rfl, HX.out.b⟩
/-- The flags. -/
def at5 (a b c d e : Bool) (k : Fin 5) : Bool := match k with | 0 => a | 1 => b | 2 => c | 3 => d | 4 => e
end Go.Proofs.Ythldophikcgkcaa.Y
namespace Go.Proofs.Ythldophikcgkcaa.X
open Go.RowKit Go.Proofs.YthldophikcgkcaaW.PrintWords
def tarnlaw41_PlaceMends.f (_a0_0 _a0_1 _a0_2 : Int) (_l0_3 _l0_4 : List Int) (_a1_0 _a1_1 _a1_2 _a1_3 _a1_4 : Bool) : Option Bool := some true
theorem tarnlaw41_PlaceMends.calls (a0_0 a0_1 a0_2 : Int) (A0_3 : Option Addr) (c0_3 : Nat) (l0_3 : List Int) (A0_4 : Option Addr) (c0_4 : Nat) (l0_4 : List Int) (a1_0 a1_1 a1_2 a1_3 a1_4 : Bool) (r : Bool) (w : World) (hr0_3 : Kd.C (Kd.int .i64) w A0_3 l0_3.length l0_3) (hc0_3 : l0_3.length ≤ c0_3) (hr0_4 : Kd.C (Kd.int .i64) w A0_4 l0_4.length l0_4) (hc0_4 : l0_4.length ≤ c0_4) (h : tarnlaw41_PlaceMends.f a0_0 a0_1 a0_2 l0_3 l0_4 a1_0 a1_1 a1_2 a1_3 a1_4 = some r) :
    Calls Try.prog 3 #[.agg #[.int .i64 a0_0, .int .i64 a0_1, .int .i64 a0_2, .slice A0_3 l0_3.length c0_3, .slice A0_4 l0_4.length c0_4], .agg #[.bool a1_0, .bool a1_1, .bool a1_2, .bool a1_3, .bool a1_4]] w fun e w' => e = .returned (.bool r) ∧ Below w.heap.size w w' := by
  obtain rfl := Option.some.inj h
  exact Y.walk_mends (Y.at5 a1_0 a1_1 a1_2 a1_3 a1_4) a0_0 a0_1 a0_2 A0_3 c0_3 l0_3 A0_4 c0_4 l0_4 w hr0_3 hc0_3 hr0_4 hc0_4
end Go.Proofs.Ythldophikcgkcaa.X
