/- place.Mend: a configuration's mirrors and chain without nodes that are down, filled up. -/
import Derived.Test.YthldophikcgkcaaMendFns
import Derived.Test.YthldophikcgkcaaRankNone
import Derived.Test.YthldophikcgkcaaLoad
namespace Go.Proofs.Ythldophikcgkcaa.Y
set_option linter.unusedVariables false
set_option linter.unusedSimpArgs false
open Go.RowKit Go.Shelf Go.Proofs Go.Sort Go.IntWalk Go.Proofs.YthldophikcgkcaaW.PrintWords Go.Proofs.YthldophikcgkcaaW.PrintLast Go.Proofs.YthldophikcgkcaaW.PrintMore Go.Proofs.Ythldophikcgkcaa.X Go.Proofs.Ythldophikcgkcaa.PPlace

/-- What Mend holds: the configuration, who is up; the lists of the configuration. -/
structure MS (w wr : World) (bx ux : Array Value) (B : Nat) (ok3 ok4 : Nat → Prop) (v3 v4 : Value) (m h : List Int) : Prop where
  c : wr.heap[w.heap.size]? = some (.cells bx 24 (0, 0))
  u : wr.heap[w.heap.size + 1]? = some (.cells ux 25 (0, 0))
  b : Below w.heap.size w wr
  r3 : Kd.R X.KI 3 wr B ok3 v3 m
  r4 : Kd.R X.KI 3 wr B ok4 v4 h
theorem MS.below {w wr w' : World} {bx ux : Array Value} {B : Nat} {ok3 ok4 : Nat → Prop} {v3 v4 : Value} {m h : List Int} (H : MS w wr bx ux B ok3 ok4 v3 v4 m h) (hb : Below wr.heap.size wr w') : MS w w' bx ux B ok3 ok4 v3 v4 m h :=
  ⟨(hb.block _ (blk_lt H.c)).trans H.c, (hb.block _ (blk_lt H.u)).trans H.u, below_step H.b hb, Kd.R_below H.r3 hb, Kd.R_below H.r4 hb⟩
theorem MS.drew {w wr : World} {bx ux : Array Value} {B : Nat} {ok3 ok4 : Nat → Prop} {v3 v4 : Value} {m h : List Int} (H : MS w wr bx ux B ok3 ok4 v3 v4 m h) : MS w wr.drew bx ux B ok3 ok4 v3 v4 m h := H.below (Below.drew (Below.refl _ _))
abbrev bxE (e b c : Int) (A3 A4 : Option Addr) (c3 c4 n3 n4 : Nat) : Array Value := #[.int .i64 e, .int .i64 b, .int .i64 c, .slice A3 n3 c3, .slice A4 n4 c4]
theorem MS.cells {w wr : World} {e b c : Int} {A3 A4 : Option Addr} {c3 c4 n3 n4 : Nat} {up : Fin 5 → Bool} {B : Nat} {ok3 ok4 : Nat → Prop} {v3 v4 : Value} {m h : List Int} (H : MS w wr (bxE e b c A3 A4 c3 c4 n3 n4) (upCells up) B ok3 ok4 v3 v4 m h) :
    wr.cell? ⟨w.heap.size, 0, none⟩ = some (.int .i64 e) ∧ wr.cell? ⟨w.heap.size, 1, none⟩ = some (.int .i64 b) ∧ wr.cell? ⟨w.heap.size, 2, none⟩ = some (.int .i64 c) ∧ wr.cell? ⟨w.heap.size, 3, none⟩ = some (.slice A3 n3 c3) ∧ wr.cell? ⟨w.heap.size, 4, none⟩ = some (.slice A4 n4 c4) ∧
    wr.cell? ⟨w.heap.size + 1, 0, none⟩ = some (.bool (up 0)) ∧ wr.cell? ⟨w.heap.size + 1, 1, none⟩ = some (.bool (up 1)) ∧ wr.cell? ⟨w.heap.size + 1, 2, none⟩ = some (.bool (up 2)) ∧ wr.cell? ⟨w.heap.size + 1, 3, none⟩ = some (.bool (up 3)) ∧ wr.cell? ⟨w.heap.size + 1, 4, none⟩ = some (.bool (up 4)) :=
  ⟨blk_cell H.c 0, blk_cell H.c 1, blk_cell H.c 2, blk_cell H.c 3, blk_cell H.c 4, up_cell up _ _ H.u 0, up_cell up _ _ H.u 1, up_cell up _ _ H.u 2, up_cell up _ _ H.u 3, up_cell up _ _ H.u 4⟩
/-- .. and the nodes in order; and a row of the call's own. -/
structure MO (w wr : World) (bx ux : Array Value) (B : Nat) (ok3 ok4 : Nat → Prop) (v3 v4 : Value) (m h : List Int) (v6 : Value) (ord : List Int) (v7 : Value) (L7 : List Int) : Prop where
  p : MS w wr bx ux B ok3 ok4 v3 v4 m h
  o : Kd.R X.KI 3 wr w.heap.size (fun _ => True) v6 ord
  r : Kd.R X.KI 3 wr w.heap.size (fun _ => True) v7 L7
theorem MO.below {w wr w' : World} {bx ux : Array Value} {B : Nat} {ok3 ok4 : Nat → Prop} {v3 v4 v6 v7 : Value} {m h ord L7 : List Int} (H : MO w wr bx ux B ok3 ok4 v3 v4 m h v6 ord v7 L7) (hb : Below wr.heap.size wr w') : MO w w' bx ux B ok3 ok4 v3 v4 m h v6 ord v7 L7 :=
  ⟨H.p.below hb, Kd.R_below H.o hb, Kd.R_below H.r hb⟩
theorem MO.drew {w wr : World} {bx ux : Array Value} {B : Nat} {ok3 ok4 : Nat → Prop} {v3 v4 v6 v7 : Value} {m h ord L7 : List Int} (H : MO w wr bx ux B ok3 ok4 v3 v4 m h v6 ord v7 L7) : MO w wr.drew bx ux B ok3 ok4 v3 v4 m h v6 ord v7 L7 := H.below (Below.drew (Below.refl _ _))
theorem fill_call (w0 W : World) (v : Value) (l order : List Int) (want : Nat) (x : Int) (hx : x = (want : Int)) (Ao : Option Addr) (co : Nat) (hR : Kd.R X.KI 3 W w0.heap.size (fun _ => True) v l) (hB : Below w0.heap.size w0 W) (hO : Kd.C X.KI w0 Ao order.length order) (ho : order.length ≤ 100) (hl : l.length ≤ 100) (hw : want ≤ 100) :
    Calls Try.prog 34 #[v, .int .i64 x, .slice Ao order.length co] W fun e w' => ∃ v', e = .returned v' ∧ Kd.R X.KI 3 w' w0.heap.size (fun _ => True) v' (fillP want l order) ∧ Below w0.heap.size w0 w' := by
  subst hx
  exact fill_n w0 W v l order want Ao co hR hB hO ho hl hw
theorem fill_none (up : Fin 5 → Bool) (ld : Fin 5 → Int) (h : (nums (rk up ld)).length = 0) (want : Nat) (l : List Int) : fillP want (l.filter (upB up)) (nums (rk up ld)) = [] := by
  have h0 := List.eq_nil_of_length_eq_zero h
  have ho := (rk_order up ld).all
  rw [h0] at ho ⊢
  show l.filter (upB up) = []
  rw [List.filter_eq_nil_iff]
  intro x _ hx
  exact absurd ((ho x).2 hx) (List.not_mem_nil)
set_option maxHeartbeats 8000000 in
set_option maxRecDepth 100000 in
theorem mend_n (up : Fin 5 → Bool) (e b c : Int) (A3 A4 : Option Addr) (c3 c4 : Nat) (m h : List Int) (w : World) (B : Nat) (ok3 ok4 : Nat → Prop) (h3 : Kd.R X.KI 3 w B ok3 (.slice A3 m.length c3) m) (h4 : Kd.R X.KI 3 w B ok4 (.slice A4 h.length c4) h) (hm : m.length ≤ 3) (hh : h.length ≤ 3) (hh1 : 1 ≤ h.length) :
    Calls Try.prog 10 #[.agg (boxC e b c A3 A4 c3 c4 m h), .agg (upCells up)] w fun e w' => ∃ (ld : Fin 5 → Int) (v3 v4 : Value), e = .returned (.tuple #[v3, v4]) ∧ Kd.R X.KI 3 w' w.heap.size (fun _ => True) v3 (fillP m.length (m.filter (upB up)) (nums (rk up ld))) ∧ Kd.R X.KI 3 w' w.heap.size (fun _ => True) v4 (fillP h.length (h.filter (upB up)) (nums (rk up ld))) ∧ Below w.heap.size w w' := by
  have hu24 := Try.underlying24
  obtain ⟨ld, hld⟩ : ∃ ld : Fin 5 → Int, (fun i => ldV m h (i.val : Int)) = ld := ⟨_, rfl⟩
  have M0 : MS w ((w.alloc (.cells (boxC e b c A3 A4 c3 c4 m h) 24)).alloc (.cells (upCells up) 25)) (boxC e b c A3 A4 c3 c4 m h) (upCells up) B ok3 ok4 (.slice A3 m.length c3) (.slice A4 h.length c4) m h := by
    refine ⟨?_, two_alloc w _ _, below_alloc (below_alloc (Below.refl _ _) _) _, Kd.R_alloc (Kd.R_alloc h3 _) _, Kd.R_alloc (Kd.R_alloc h4 _) _⟩
    rw [heap_alloc_old _ _ (by simp)]
    exact heap_alloc_new w _
  have k3 : m.length ≤ c3 := by
    obtain ⟨A, cp, he, h2, _⟩ := Kd.R_reads h3
    injection he with e1 e2 e3
    omega
  have k4 : h.length ≤ c4 := by
    obtain ⟨A, cp, he, h2, _⟩ := Kd.R_reads h4
    injection he with e1 e2 e3
    omega
  have HLD : ∀ W, MS w W (boxC e b c A3 A4 c3 c4 m h) (upCells up) B ok3 ok4 (.slice A3 m.length c3) (.slice A4 h.length c4) m h → Calls Try.prog 33 #[.agg (boxC e b c A3 A4 c3 c4 m h)] W fun e' w' => e' = .returned (.agg (ldCells ld)) ∧ MS w w' (boxC e b c A3 A4 c3 c4 m h) (upCells up) B ok3 ok4 (.slice A3 m.length c3) (.slice A4 h.length c4) m h := by
    intro W HW
    refine (load_n e b c A3 A4 c3 c4 m h W (Kd.R_reads' HW.r3).2.2 k3 (Kd.R_reads' HW.r4).2.2 k4 (by omega) (by omega)).mono ?_
    rintro e1 W1 ⟨rfl, hb⟩
    exact ⟨by rw [hld], HW.below hb⟩
  have H0 := Lib.hid M0
  have HL := Lib.hid HLD
  have HK := Lib.hid (And.intro k3 k4)
  clear M0 HLD h3 h4 k3 k4 hld
  go_enter Try.func10, Try.ntmps10
  go_wp2_with fail
  generalize (w.alloc (.cells (boxC e b c A3 A4 c3 c4 m h) 24)).alloc (.cells (upCells up) 25) = W0 at *
  have HR := Lib.hid (fun W => rank_any up ld W)
  have M0 := H0.out
  obtain ⟨q0, q1, q2, q3, q4, q5, q6, q7, q8, q9⟩ := MS.cells M0
  unfold boxC at *
  unfold upCells at *
  clear H0
  go_region_held3 (fun w' => MS w w' #[.int .i64 e, .int .i64 b, .int .i64 c, .slice A3 m.length c3, .slice A4 h.length c4] #[.bool (up 0), .bool (up 1), .bool (up 2), .bool (up 3), .bool (up 4)] B ok3 ok4 (.slice A3 m.length c3) (.slice A4 h.length c4) m h ∧ w'.cell? ⟨w.heap.size, 0, none⟩ = some (.int .i64 e) ∧ w'.cell? ⟨w.heap.size, 1, none⟩ = some (.int .i64 b) ∧ w'.cell? ⟨w.heap.size, 2, none⟩ = some (.int .i64 c) ∧ w'.cell? ⟨w.heap.size, 3, none⟩ = some (.slice A3 m.length c3) ∧ w'.cell? ⟨w.heap.size, 4, none⟩ = some (.slice A4 h.length c4) ∧
    w'.cell? ⟨w.heap.size + 1, 0, none⟩ = some (.bool (up 0)) ∧ w'.cell? ⟨w.heap.size + 1, 1, none⟩ = some (.bool (up 1)) ∧ w'.cell? ⟨w.heap.size + 1, 2, none⟩ = some (.bool (up 2)) ∧ w'.cell? ⟨w.heap.size + 1, 3, none⟩ = some (.bool (up 3)) ∧ w'.cell? ⟨w.heap.size + 1, 4, none⟩ = some (.bool (up 4))) (((try go_split_ands); refine ⟨?_, ?_, ?_, ?_, ?_, ?_, ?_, ?_, ?_, ?_, ?_⟩ <;> (first | assumption | (apply MS.drew; assumption) | go_keep))) (first | (go_at_call 33; refine (HL.out _ (by first | assumption | exact And.left (by assumption))).mono ?_; rintro e1 w1 ⟨rfl, hM1⟩; obtain ⟨q0, q1, q2, q3, q4, q5, q6, q7, q8, q9⟩ := MS.cells (up := up) hM1) | (go_at_call 32; refine (HR.out _).mono ?_; rintro e2 w2 ⟨v6, rfl, hR6, hB6⟩; have hM2 := MS.below (by first | assumption | exact And.left (by assumption)) hB6; obtain ⟨q0, q1, q2, q3, q4, q5, q6, q7, q8, q9⟩ := MS.cells (up := up) hM2))
  obtain ⟨Ao, co, rfl, hco, _⟩ := Kd.R_reads hR6
  have hR6' := Kd.R_lower hR6 (base' := w.heap.size) hM1.b.size
  have hO5 : (nums (rk up ld)).length ≤ 100 := by
    have := (rk_order up ld).len
    have := upTo_len up 5
    omega
  have hnone := fill_none up ld
  have HNO := Lib.hid hnone
  clear hnone HR HL hR6 hB6 M0
  obtain ⟨ord, hord⟩ : ∃ ord, nums (rk up ld) = ord := ⟨_, rfl⟩
  have HORD := Lib.hid hord
  rw [hord] at hO5 HNO hR6' hco ⊢
  clear hord
  have HM := Lib.hid (MO.mk hM2 hR6' hR6')
  clear hM2 hR6'
  by_cases hz : ord.length = 0
  · go_wp2
    go_ret2
    exact ⟨ld, _, _, rfl, by rw [HORD.out, HNO.out hz]; exact Kd.R_nil _ _ _ _ _, by rw [HORD.out, HNO.out hz]; exact Kd.R_nil _ _ _ _ _, HM.out.p.b⟩
  · have hz' : ¬ ((ord.length : Int) = 0) := by omega
    go_wp2_with fail
    go_region_held3 (fun w' => MO w w' #[.int .i64 e, .int .i64 b, .int .i64 c, .slice A3 m.length c3, .slice A4 h.length c4] #[.bool (up 0), .bool (up 1), .bool (up 2), .bool (up 3), .bool (up 4)] B ok3 ok4 (.slice A3 m.length c3) (.slice A4 h.length c4) m h (.slice Ao ord.length co) ord (.slice Ao ord.length co) ord ∧ w'.cell? ⟨w.heap.size, 3, none⟩ = some (.slice A3 m.length c3) ∧ w'.cell? ⟨w.heap.size, 4, none⟩ = some (.slice A4 h.length c4) ∧
    w'.cell? ⟨w.heap.size + 1, 0, none⟩ = some (.bool (up 0)) ∧ w'.cell? ⟨w.heap.size + 1, 1, none⟩ = some (.bool (up 1)) ∧ w'.cell? ⟨w.heap.size + 1, 2, none⟩ = some (.bool (up 2)) ∧ w'.cell? ⟨w.heap.size + 1, 3, none⟩ = some (.bool (up 3)) ∧ w'.cell? ⟨w.heap.size + 1, 4, none⟩ = some (.bool (up 4))) (((try go_split_ands); refine ⟨?_, ?_, ?_, ?_, ?_, ?_, ?_, ?_⟩ <;> (first | assumption | exact HM.out | exact HM.out.drew | go_keep))) (first | (go_at_call 35; have hMka : MO w w2.drew #[.int .i64 e, .int .i64 b, .int .i64 c, .slice A3 m.length c3, .slice A4 h.length c4] #[.bool (up 0), .bool (up 1), .bool (up 2), .bool (up 3), .bool (up 4)] B ok3 ok4 (.slice A3 m.length c3) (.slice A4 h.length c4) m h (.slice Ao ord.length co) ord (.slice Ao ord.length co) ord := (by first | assumption | exact And.left (by assumption)); refine (kept_n up _ _ _ _ h hMka.p.r4 (by omega)).mono ?_; rintro e4 w4a ⟨v4', rfl, hR4a, hB4a⟩; have hM4 := hMka.below hB4a; obtain ⟨q0, q1, q2, q3, q4, q5, q6, q7, q8, q9⟩ := MS.cells (up := up) hM4.p) | (go_at_call 34; clear hM4; refine (fill_call _ _ _ (h.filter (upB up)) ord h.length _ (by omega) Ao co hR4a hB4a (Kd.R_reads' hMka.o).2.2 hO5 (Nat.le_trans (List.length_filter_le _ _) (by omega)) (by omega)).mono ?_; rintro e5 w5 ⟨v9, rfl, hR9a, hB9a⟩; have hM5 := hMka.below hB9a; obtain ⟨q0, q1, q2, q3, q4, q5, q6, q7, q8, q9⟩ := MS.cells (up := up) hM5.p))
    all_goals
      have hR7 := Kd.R_lower hR9a (base' := w.heap.size) (by have := hMka.p.b.size; simpa using this)
      have HM5 := Lib.hid (MO.mk hM5.p hM5.o hR7)
      clear hMka hR4a hB4a hR9a hB9a hM5 hR7 HM
      go_wp2_with fail
      obtain ⟨q0, q1, q2, q3, q4, q5, q6, q7, q8, q9⟩ := MS.cells (up := up) HM5.out.p
      go_region_held3 (fun w' => MO w w' #[.int .i64 e, .int .i64 b, .int .i64 c, .slice A3 m.length c3, .slice A4 h.length c4] #[.bool (up 0), .bool (up 1), .bool (up 2), .bool (up 3), .bool (up 4)] B ok3 ok4 (.slice A3 m.length c3) (.slice A4 h.length c4) m h (.slice Ao ord.length co) ord v9 (fillP h.length (h.filter (upB up)) ord) ∧ w'.cell? ⟨w.heap.size, 3, none⟩ = some (.slice A3 m.length c3) ∧ w'.cell? ⟨w.heap.size, 4, none⟩ = some (.slice A4 h.length c4) ∧ w'.cell? ⟨w.heap.size + 1, 0, none⟩ = some (.bool (up 0)) ∧ w'.cell? ⟨w.heap.size + 1, 1, none⟩ = some (.bool (up 1)) ∧ w'.cell? ⟨w.heap.size + 1, 2, none⟩ = some (.bool (up 2)) ∧ w'.cell? ⟨w.heap.size + 1, 3, none⟩ = some (.bool (up 3)) ∧ w'.cell? ⟨w.heap.size + 1, 4, none⟩ = some (.bool (up 4))) (((try go_split_ands); refine ⟨?_, ?_, ?_, ?_, ?_, ?_, ?_, ?_⟩ <;> (first | assumption | exact HM5.out | exact HM5.out.drew | go_keep))) (first | (go_at_call 35; have hMkb : MO w w5.drew #[.int .i64 e, .int .i64 b, .int .i64 c, .slice A3 m.length c3, .slice A4 h.length c4] #[.bool (up 0), .bool (up 1), .bool (up 2), .bool (up 3), .bool (up 4)] B ok3 ok4 (.slice A3 m.length c3) (.slice A4 h.length c4) m h (.slice Ao ord.length co) ord v9 (fillP h.length (h.filter (upB up)) ord) := (by first | assumption | exact And.left (by assumption)); refine (kept_n up _ _ _ _ m hMkb.p.r3 (by omega)).mono ?_; rintro e4 w4b ⟨v4b', rfl, hR4b, hB4b⟩; have hM4 := hMkb.below hB4b; obtain ⟨q0, q1, q2, q3, q4, q5, q6, q7, q8, q9⟩ := MS.cells (up := up) hM4.p) | (go_at_call 34; clear hM4; refine (fill_call _ _ _ (m.filter (upB up)) ord m.length _ (by omega) Ao co hR4b hB4b (Kd.R_reads' hMkb.o).2.2 hO5 (Nat.le_trans (List.length_filter_le _ _) (by omega)) (by omega)).mono ?_; rintro e5 w6 ⟨v10, rfl, hR9b, hB9b⟩; have hM5 := hMkb.below hB9b; obtain ⟨q0, q1, q2, q3, q4, q5, q6, q7, q8, q9⟩ := MS.cells (up := up) hM5.p))
      all_goals
        have hR8 := Kd.R_lower hR9b (base' := w.heap.size) (by have := hMkb.p.b.size; simpa using this)
        have hN := MO.mk hM5.p hR8 hM5.r
        go_wp2
        go_ret2
        exact ⟨ld, _, _, rfl, by rw [HORD.out]; exact hN.o, by rw [HORD.out]; exact hN.r, hN.p.b⟩
end Go.Proofs.Ythldophikcgkcaa.Y
