-- Printed by wip/xprint of this session, over the kit's print: Lean functions for Go functions, and their contracts.
import Derived.Test.YtfblmfefcgmpfabPNeedx0
import Derived.Test.YtfblmfefcgmpfabPNeedx4
import Derived.Test.YtfblmfefcgmpfabPNeedx5
import Derived.Test.YtfblmfefcgmpfabPNeedx6
import Derived.Test.YtfblmfefcgmpfabPNeedx7
namespace Go.Proofs.Ytfblmfefcgmpfab.PNeed
open Go.RowKit Go.Proofs.YtfblmfefcgmpfabW.PrintWords Go.Proofs.YtfblmfefcgmpfabW.PrintLast Go.Proofs.YtfblmfefcgmpfabW.PrintMore Go.Proofs.Ytfblmfefcgmpfab.X
attribute [local go_sem] max2_int min2_int max_two min_two max_three min_three max_four min_four   -- for this text's walks alone
set_option linter.unusedVariables false
set_option linter.unusedSimpArgs false

/-! ### tarnlaw28_NeedMay: function 5 -/
mutual
def tarnlaw28_NeedMay.j0 : Nat → Int → Int → Int → Int → Int → ByteArray → Bool → Option (Bool)
  | 0, _, _, _, _, _, _, _ => none
  | k + 1, x7, x9, x147000, x147001, x147002, x147003, x147004 => if x147000 ≥ 0 then (tarnlaw28_NeedMay.j1 k x7 x9 (x147000 == 3) (decide (x147000 < 3)) x147000 x147001 x147002 x147003 x147004) else (tarnlaw28_NeedMay.j1 k x7 x9 (x147000 == 3) false x147000 x147001 x147002 x147003 x147004)
def tarnlaw28_NeedMay.j1 : Nat → Int → Int → Bool → Bool → Int → Int → Int → ByteArray → Bool → Option (Bool)
  | 0, _, _, _, _, _, _, _, _, _ => none
  | k + 1, x7, x9, x10, x36, x147000, x147001, x147002, x147003, x147004 => if x36 = true then (if x147001 ≥ 0 then (if (Int.tmod x147001 32) = 0 then (if x9 > 0 then (if (Int.tmod x9 32) = 0 then (if x9 ≤ 128 then (tarnlaw28_NeedMay.j2 k x7 x9 (decide ((wrap64 (Int.tdiv x147001 32)) ≤ (wrap64 ((mn x7 64) - (wrap64 (Int.tdiv x9 32)))))) x147000 x147001 x147002 x147003 x147004) else (tarnlaw28_NeedMay.j2 k x7 x9 false x147000 x147001 x147002 x147003 x147004)) else (tarnlaw28_NeedMay.j2 k x7 x9 false x147000 x147001 x147002 x147003 x147004)) else (tarnlaw28_NeedMay.j2 k x7 x9 false x147000 x147001 x147002 x147003 x147004)) else (tarnlaw28_NeedMay.j2 k x7 x9 false x147000 x147001 x147002 x147003 x147004)) else (tarnlaw28_NeedMay.j2 k x7 x9 false x147000 x147001 x147002 x147003 x147004)) else (tarnlaw28_NeedMay.j2 k x7 x9 x10 x147000 x147001 x147002 x147003 x147004)
def tarnlaw28_NeedMay.j2 : Nat → Int → Int → Bool → Int → Int → Int → ByteArray → Bool → Option (Bool)
  | 0, _, _, _, _, _, _, _, _ => none
  | k + 1, x7, x9, x10, x147000, x147001, x147002, x147003, x147004 => (need_May.f k x147000 x147001 x147002 x147003 x147004 x7).bind fun t147 => ((tarnlaw28_awake.f k).bind fun t148 => (if t148 = true then (if ((t147 == 0) == x10) = true then (if x10 = true then ((need_Size.f x147000 x147001 x147002 x147003 x147004).bind fun t149 => (if t149 = x9 then ((need_Parts.f k x147000 x147001 x147002 x147003 x147004 x7).bind fun t150 => (some ((decide ((t150.length : Int) > 0)) == (decide (x147000 < 3))))) else (some false))) else (if t147 = 1 then ((need_Size.f x147000 x147001 x147002 x147003 x147004).bind fun t153 => (if t153 = x9 then ((need_Parts.f k x147000 x147001 x147002 x147003 x147004 x7).bind fun t154 => (some ((decide ((t154.length : Int) > 0)) == false))) else (some false))) else (some false))) else (some false)) else (some false)))
end
def tarnlaw28_NeedMay.f (k : Nat) (a0_0 : Int) (a0_1 : Int) (a0_2 : Int) (a0_3 : ByteArray) (a0_4 : Bool) (a1 : Int) (a2 : Int) : Option (Bool) := (tarnlaw28_Odd.f k a0_0 a0_1 a0_2 a0_3 a0_4 (Go.bits .and .i64 a1 127) a2).bind fun bt141 => (if bt141.1 = 1 then (tarnlaw28_NeedMay.j0 k (Go.bits .and .i64 a1 127) (bt141.2.2.2.1.size : Int) bt141.1 bt141.2.1 bt141.2.2.1 bt141.2.2.2.1 bt141.2.2.2.2) else (tarnlaw28_NeedMay.j0 k (Go.bits .and .i64 a1 127) bt141.2.2.1 bt141.1 bt141.2.1 bt141.2.2.1 bt141.2.2.2.1 bt141.2.2.2.2))
theorem tarnlaw28_NeedMay.mono_l : ∀ k, (∀ y0 y1 y2 y3 y4 y5 y6, LeO (tarnlaw28_NeedMay.j0 k y0 y1 y2 y3 y4 y5 y6) (tarnlaw28_NeedMay.j0 (k + 1) y0 y1 y2 y3 y4 y5 y6)) ∧ (∀ y0 y1 y2 y3 y4 y5 y6 y7 y8, LeO (tarnlaw28_NeedMay.j1 k y0 y1 y2 y3 y4 y5 y6 y7 y8) (tarnlaw28_NeedMay.j1 (k + 1) y0 y1 y2 y3 y4 y5 y6 y7 y8)) ∧ (∀ y0 y1 y2 y3 y4 y5 y6 y7, LeO (tarnlaw28_NeedMay.j2 k y0 y1 y2 y3 y4 y5 y6 y7) (tarnlaw28_NeedMay.j2 (k + 1) y0 y1 y2 y3 y4 y5 y6 y7))
  | 0 => ⟨fun _ _ _ _ _ _ _ r h => by simp [tarnlaw28_NeedMay.j0] at h, fun _ _ _ _ _ _ _ _ _ r h => by simp [tarnlaw28_NeedMay.j1] at h, fun _ _ _ _ _ _ _ _ r h => by simp [tarnlaw28_NeedMay.j2] at h⟩
  | k + 1 => by
    obtain ⟨ih0, ih1, ih2⟩ := tarnlaw28_NeedMay.mono_l k
    refine ⟨?_, ?_, ?_⟩
    · intro y0 y1 y2 y3 y4 y5 y6
      unfold tarnlaw28_NeedMay.j0
      repeat' first
      | (with_reducible exact ih0 _ _ _ _ _ _ _)
      | (with_reducible exact ih1 _ _ _ _ _ _ _ _ _)
      | (with_reducible exact ih2 _ _ _ _ _ _ _ _)
      | (with_reducible exact need_May.mono _ _ _ _ _ _ _)
      | (with_reducible exact need_Parts.mono _ _ _ _ _ _ _)
      | (with_reducible exact tarnlaw28_Odd.mono _ _ _ _ _ _ _ _)
      | (with_reducible exact tarnlaw28_awake.mono _)
      | (with_reducible exact LeO.refl _)
      | (with_reducible exact LeO.none _)
      | (with_reducible refine LeO.ite ?_ ?_)
      | (with_reducible refine LeO.bind ?_ (fun _ => ?_))
      | exact ih0 _ _ _ _ _ _ _
      | exact ih1 _ _ _ _ _ _ _ _ _
      | exact ih2 _ _ _ _ _ _ _ _
      | exact need_May.mono _ _ _ _ _ _ _
      | exact need_Parts.mono _ _ _ _ _ _ _
      | exact tarnlaw28_Odd.mono _ _ _ _ _ _ _ _
      | exact tarnlaw28_awake.mono _
      | exact LeO.none _
      | refine LeO.ite ?_ ?_
      | refine LeO.bind ?_ (fun _ => ?_)
    · intro y0 y1 y2 y3 y4 y5 y6 y7 y8
      unfold tarnlaw28_NeedMay.j1
      repeat' first
      | (with_reducible exact ih0 _ _ _ _ _ _ _)
      | (with_reducible exact ih1 _ _ _ _ _ _ _ _ _)
      | (with_reducible exact ih2 _ _ _ _ _ _ _ _)
      | (with_reducible exact need_May.mono _ _ _ _ _ _ _)
      | (with_reducible exact need_Parts.mono _ _ _ _ _ _ _)
      | (with_reducible exact tarnlaw28_Odd.mono _ _ _ _ _ _ _ _)
      | (with_reducible exact tarnlaw28_awake.mono _)
      | (with_reducible exact LeO.refl _)
      | (with_reducible exact LeO.none _)
      | (with_reducible refine LeO.ite ?_ ?_)
      | (with_reducible refine LeO.bind ?_ (fun _ => ?_))
      | exact ih0 _ _ _ _ _ _ _
      | exact ih1 _ _ _ _ _ _ _ _ _
      | exact ih2 _ _ _ _ _ _ _ _
      | exact need_May.mono _ _ _ _ _ _ _
      | exact need_Parts.mono _ _ _ _ _ _ _
      | exact tarnlaw28_Odd.mono _ _ _ _ _ _ _ _
      | exact tarnlaw28_awake.mono _
      | exact LeO.none _
      | refine LeO.ite ?_ ?_
      | refine LeO.bind ?_ (fun _ => ?_)
    · intro y0 y1 y2 y3 y4 y5 y6 y7
      unfold tarnlaw28_NeedMay.j2
      repeat' first
      | (with_reducible exact ih0 _ _ _ _ _ _ _)
      | (with_reducible exact ih1 _ _ _ _ _ _ _ _ _)
      | (with_reducible exact ih2 _ _ _ _ _ _ _ _)
      | (with_reducible exact need_May.mono _ _ _ _ _ _ _)
      | (with_reducible exact need_Parts.mono _ _ _ _ _ _ _)
      | (with_reducible exact tarnlaw28_Odd.mono _ _ _ _ _ _ _ _)
      | (with_reducible exact tarnlaw28_awake.mono _)
      | (with_reducible exact LeO.refl _)
      | (with_reducible exact LeO.none _)
      | (with_reducible refine LeO.ite ?_ ?_)
      | (with_reducible refine LeO.bind ?_ (fun _ => ?_))
      | exact ih0 _ _ _ _ _ _ _
      | exact ih1 _ _ _ _ _ _ _ _ _
      | exact ih2 _ _ _ _ _ _ _ _
      | exact need_May.mono _ _ _ _ _ _ _
      | exact need_Parts.mono _ _ _ _ _ _ _
      | exact tarnlaw28_Odd.mono _ _ _ _ _ _ _ _
      | exact tarnlaw28_awake.mono _
      | exact LeO.none _
      | refine LeO.ite ?_ ?_
      | refine LeO.bind ?_ (fun _ => ?_)
theorem tarnlaw28_NeedMay.mono : ∀ a0 a1 a2 a3 a4 a5 a6 k, LeO (tarnlaw28_NeedMay.f k a0 a1 a2 a3 a4 a5 a6) (tarnlaw28_NeedMay.f (k + 1) a0 a1 a2 a3 a4 a5 a6) := by
  intro a0 a1 a2 a3 a4 a5 a6 k
  obtain ⟨ih0, ih1, ih2⟩ := tarnlaw28_NeedMay.mono_l k
  unfold tarnlaw28_NeedMay.f
  repeat' first
      | (with_reducible exact ih0 _ _ _ _ _ _ _)
      | (with_reducible exact ih1 _ _ _ _ _ _ _ _ _)
      | (with_reducible exact ih2 _ _ _ _ _ _ _ _)
      | (with_reducible exact need_May.mono _ _ _ _ _ _ _)
      | (with_reducible exact need_Parts.mono _ _ _ _ _ _ _)
      | (with_reducible exact tarnlaw28_Odd.mono _ _ _ _ _ _ _ _)
      | (with_reducible exact tarnlaw28_awake.mono _)
      | (with_reducible exact LeO.refl _)
      | (with_reducible exact LeO.none _)
      | (with_reducible refine LeO.ite ?_ ?_)
      | (with_reducible refine LeO.bind ?_ (fun _ => ?_))
      | exact ih0 _ _ _ _ _ _ _
      | exact ih1 _ _ _ _ _ _ _ _ _
      | exact ih2 _ _ _ _ _ _ _ _
      | exact need_May.mono _ _ _ _ _ _ _
      | exact need_Parts.mono _ _ _ _ _ _ _
      | exact tarnlaw28_Odd.mono _ _ _ _ _ _ _ _
      | exact tarnlaw28_awake.mono _
      | exact LeO.none _
      | refine LeO.ite ?_ ?_
      | refine LeO.bind ?_ (fun _ => ?_)
set_option maxHeartbeats 8000000 in
set_option maxRecDepth 100000 in
theorem tarnlaw28_NeedMay.calls (k : Nat) (a0_0 : Int) (a0_1 : Int) (a0_2 : Int) (a0_3 : ByteArray) (a0_4 : Bool) (a1 : Int) (a2 : Int) (r : Bool) (w : World) (h : tarnlaw28_NeedMay.f k a0_0 a0_1 a0_2 a0_3 a0_4 a1 a2 = some r) :
    Calls Try.prog 5 #[.agg #[.int .i64 a0_0, .int .i64 a0_1, .int .i64 a0_2, .string a0_3, .bool a0_4], .int .i64 a1, .int .i64 a2] w fun e w' => e = .returned (.bool r) ∧ Below w.heap.size w w' := by
  have hu59 := Try.underlying59
  have HB := Aside0.mk (Below.refl w.heap.size w)
  have H : ((tarnlaw28_Odd.f k a0_0 a0_1 a0_2 a0_3 a0_4 (Go.bits .and .i64 a1 127) a2).bind fun bt141 => (if bt141.1 = 1 then (tarnlaw28_NeedMay.j0 k (Go.bits .and .i64 a1 127) (bt141.2.2.2.1.size : Int) bt141.1 bt141.2.1 bt141.2.2.1 bt141.2.2.2.1 bt141.2.2.2.2) else (tarnlaw28_NeedMay.j0 k (Go.bits .and .i64 a1 127) bt141.2.2.1 bt141.1 bt141.2.1 bt141.2.2.1 bt141.2.2.2.1 bt141.2.2.2.2))) = some r := h
  clear h
  replace H := Option.bind_eq_some_iff.mp H
  obtain ⟨⟨t141, t142, t143, t144, t145⟩, A40, H⟩ := H
  replace H : (if t141 = 1 then (tarnlaw28_NeedMay.j0 k (Go.bits .and .i64 a1 127) (t144.size : Int) t141 t142 t143 t144 t145) else (tarnlaw28_NeedMay.j0 k (Go.bits .and .i64 a1 127) t143 t141 t142 t143 t144 t145)) = some r := H
  have A4 := Aside0.mk A40
  clear A40
  have HC5 := Aside0.mk H
  clear H
  go_enter Try.func5, Try.ntmps5
  go_upto_if 22 with (first | ((with_reducible refine gate_dst (N := 3) rfl ?_); (try (refine gate_guard (by rfl) ?_; dsimp only)); refine box_event ?hg (N := 3) ?hd (cs := #[.int .i64 a0_0, .int .i64 a0_1, .int .i64 a0_2, .string a0_3, .bool a0_4]) (t := 59) ?hr ?_; (case hd => rfl); (case hg => rfl); (case hr => first | (go_simp; done) | (go_simp; rfl)); intro gb140 hg w6 hbox hb; have n0_ := Aside0.mk (below_step (by repeat (first | (with_reducible first | exact HB.out | apply below_alloc | apply pw_below_drewN | apply below_drew1) | exact HB.out)) hb); have n1_ := Aside0.mk (hbox); have n2_ := Aside0.mk ((by rw [hg]; exact (below_size (by repeat (first | (with_reducible first | exact HB.out | apply below_alloc | apply pw_below_drewN | apply below_drew1) | exact HB.out))) : w.heap.size ≤ gb140)); have n3_ := Aside0.mk ((by rw [hg]; exact (below_size (by repeat (first | (with_reducible first | exact HB.out | apply below_alloc | apply pw_below_drewN | apply below_drew1) | exact HB.out))) : w.heap.size ≤ gb140)); clear HB; have HB := n0_; have BK140 := n1_; have GW140 := n2_; have GE140 := n3_; clear n0_ n1_ n2_ n3_; clear hb hbox hg; have hcz7_0 : w6.cell? ⟨gb140, 0, none⟩ = some (.int .i64 a0_0) := (blk_cell BK140.out 0).trans rfl; have hcz7_1 : w6.cell? ⟨gb140, 1, none⟩ = some (.int .i64 a0_1) := (blk_cell BK140.out 1).trans rfl; have hcz7_2 : w6.cell? ⟨gb140, 2, none⟩ = some (.int .i64 a0_2) := (blk_cell BK140.out 2).trans rfl; have hcz7_3 : w6.cell? ⟨gb140, 3, none⟩ = some (.string a0_3) := (blk_cell BK140.out 3).trans rfl; have hcz7_4 : w6.cell? ⟨gb140, 4, none⟩ = some (.bool a0_4) := (blk_cell BK140.out 4).trans rfl; have hfz7_0 := blk_frozen BK140.out 0; have hfz7_1 := blk_frozen BK140.out 1; have hfz7_2 := blk_frozen BK140.out 2; have hfz7_3 := blk_frozen BK140.out 3; have hfz7_4 := blk_frozen BK140.out 4) | ((with_reducible refine gate_callee (f := 27) rfl ?_); refine goesL_ (some 17) rfl rfl Try.func27 (by kernel_rfl) rfl #[.agg #[.int .i64 a0_0, .int .i64 a0_1, .int .i64 a0_2, .string a0_3, .bool a0_4], .int .i64 (Go.bits .and .i64 a1 127), .int .i64 a2] rfl (by (try simp only [List.map_toArray, List.map_cons, List.map_nil]); first | done | rfl | (simp only [List.length_drop, List.length_take]; rfl)) ?_; (with_reducible refine (tarnlaw28_Odd.calls k a0_0 a0_1 a0_2 a0_3 a0_4 (Go.bits .and .i64 a1 127) a2 t141 t142 t143 t144 t145 _ A4.out).mono ?_); rintro e w8 ⟨rfl, hb⟩; refine ⟨_, rfl, ?_⟩; have n0_ := Aside0.mk (blk_below (g := gb140) (o := .cells #[.int .i64 a0_0, .int .i64 a0_1, .int .i64 a0_2, .string a0_3, .bool a0_4] 59 (0, 0)) (by (with_reducible repeat (first | refine blk_drewN ?_ _ | refine blk_drew ?_ | refine blk_alloc ?_ _)); exact BK140.out) hb); have n1_ := Aside0.mk (below_step (by repeat (first | (with_reducible first | exact HB.out | apply below_alloc | apply pw_below_drewN | apply below_drew1 | refine below_set ?_ GE140.out) | exact HB.out)) hb); clear BK140; clear HB; have BK140 := n0_; have HB := n1_; clear n0_ n1_; (try clear hb); (try clear hb2); (try clear hk); (try clear hi)) | ((with_reducible refine gate_dst (N := 8) rfl ?_); (try (refine gate_guard (by rfl) ?_; dsimp only)); refine box_event ?hg (N := 8) ?hd (cs := #[.int .i64 0, .int .i64 0, .int .i64 0, .string (⟨#[]⟩ : ByteArray), .bool false]) (t := 59) ?hr ?_; (case hd => rfl); (case hg => rfl); (case hr => first | (go_simp; done) | (go_simp; rfl)); intro gb146 hg w9 hbox hb; have n0_ := Aside0.mk (blk_below (g := gb140) (o := .cells #[.int .i64 a0_0, .int .i64 a0_1, .int .i64 a0_2, .string a0_3, .bool a0_4] 59 (0, 0)) (by (with_reducible repeat (first | refine blk_drewN ?_ _ | refine blk_drew ?_ | refine blk_alloc ?_ _)); exact BK140.out) hb); have n1_ := Aside0.mk (below_step (by repeat (first | (with_reducible first | exact HB.out | apply below_alloc | apply pw_below_drewN | apply below_drew1 | refine below_set ?_ GE140.out) | exact HB.out)) hb); have n2_ := Aside0.mk (hbox); have n3_ := Aside0.mk ((by rw [hg]; exact (below_size (by repeat (first | (with_reducible first | exact HB.out | apply below_alloc | apply pw_below_drewN | apply below_drew1 | refine below_set ?_ GE140.out) | exact HB.out))) : w.heap.size ≤ gb146)); have n4_ := Aside0.mk ((by rw [hg]; exact (below_size (by repeat (first | (with_reducible first | exact HB.out | apply below_alloc | apply pw_below_drewN | apply below_drew1 | refine below_set ?_ GE140.out) | exact HB.out))) : w.heap.size ≤ gb146)); have n5_ := Aside0.mk ((by rw [hg]; exact Nat.ne_of_lt (blk_lt (g := gb140) (o := .cells #[.int .i64 a0_0, .int .i64 a0_1, .int .i64 a0_2, .string a0_3, .bool a0_4] 59 (0, 0)) (by (with_reducible repeat (first | refine blk_drewN ?_ _ | refine blk_drew ?_ | refine blk_alloc ?_ _)); exact BK140.out)) : gb140 ≠ gb146)); have n6_ := Aside0.mk ((by rw [hg]; exact Nat.ne_of_gt (blk_lt (g := gb140) (o := .cells #[.int .i64 a0_0, .int .i64 a0_1, .int .i64 a0_2, .string a0_3, .bool a0_4] 59 (0, 0)) (by (with_reducible repeat (first | refine blk_drewN ?_ _ | refine blk_drew ?_ | refine blk_alloc ?_ _)); exact BK140.out)) : gb146 ≠ gb140)); clear BK140; clear HB; have BK140 := n0_; have HB := n1_; have BK146 := n2_; have GW146 := n3_; have GE146 := n4_; have NB140_146 := n5_; have NB146_140 := n6_; clear n0_ n1_ n2_ n3_ n4_ n5_ n6_; clear hb hbox hg; have hnb10 := NB146_140.out; have hnc10 := NB140_146.out; have hcz11_0 : w9.cell? ⟨gb146, 0, none⟩ = some (.int .i64 0) := (blk_cell BK146.out 0).trans rfl; have hcz11_1 : w9.cell? ⟨gb146, 1, none⟩ = some (.int .i64 0) := (blk_cell BK146.out 1).trans rfl; have hcz11_2 : w9.cell? ⟨gb146, 2, none⟩ = some (.int .i64 0) := (blk_cell BK146.out 2).trans rfl; have hcz11_3 : w9.cell? ⟨gb146, 3, none⟩ = some (.string (⟨#[]⟩ : ByteArray)) := (blk_cell BK146.out 3).trans rfl; have hcz11_4 : w9.cell? ⟨gb146, 4, none⟩ = some (.bool false) := (blk_cell BK146.out 4).trans rfl; have hfz11_0 := blk_frozen BK146.out 0; have hfz11_1 := blk_frozen BK146.out 1; have hfz11_2 := blk_frozen BK146.out 2; have hfz11_3 := blk_frozen BK146.out 3; have hfz11_4 := blk_frozen BK146.out 4))
  (try simp only [Act.put, List.setIfInBounds_toArray, List.set_cons_zero, List.set_cons_succ])
  go_cut [9] (fun v9 wc => ∃ (kq : Nat) (x9_4 : Int), v9 = .int .i64 x9_4 ∧ Aside0 (tarnlaw28_NeedMay.j0 kq (Go.bits .and .i64 a1 127) x9_4 t141 t142 t143 t144 t145 = some r) ∧ Aside0 (kq ≤ k) ∧ Aside0 (wc.heap[gb140]? = some (.cells #[.int .i64 a0_0, .int .i64 a0_1, .int .i64 a0_2, .string a0_3, .bool a0_4] 59 (0, 0))) ∧ Aside0 (wc.heap[gb146]? = some (.cells #[.int .i64 t141, .int .i64 t142, .int .i64 t143, .string t144, .bool t145] 59 (0, 0))) ∧ Aside0 (Below w.heap.size w wc))
  case first =>
    have H := HC5.out
    clear HC5
    by_cases c12 : t141 = 1
    · rw [if_pos c12] at H
      have c12b0 : (t141 == 1) = true := beq_iff_eq.mpr c12
      have c12b1 : (t141 != 1) = false := bne_eq_false_iff_eq.mpr c12
      clear c12
      (first | rw [c12b0] | (simp only [i64_w, i32_w]; rw [c12b0]) | rw [c12b1] | skip)
      have H' := Aside0.mk H
      clear H
      have hnb13 := NB146_140.out
      have hnc13 := NB140_146.out
      have hcz14_0 : w9.cell? ⟨gb146, 0, none⟩ = some (.int .i64 0) := (blk_cell BK146.out 0).trans rfl
      have hcz14_1 : w9.cell? ⟨gb146, 1, none⟩ = some (.int .i64 0) := (blk_cell BK146.out 1).trans rfl
      have hcz14_2 : w9.cell? ⟨gb146, 2, none⟩ = some (.int .i64 0) := (blk_cell BK146.out 2).trans rfl
      have hcz14_3 : w9.cell? ⟨gb146, 3, none⟩ = some (.string (⟨#[]⟩ : ByteArray)) := (blk_cell BK146.out 3).trans rfl
      have hcz14_4 : w9.cell? ⟨gb146, 4, none⟩ = some (.bool false) := (blk_cell BK146.out 4).trans rfl
      have hfz14_0 := blk_frozen BK146.out 0
      have hfz14_1 := blk_frozen BK146.out 1
      have hfz14_2 := blk_frozen BK146.out 2
      have hfz14_3 := blk_frozen BK146.out 3
      have hfz14_4 := blk_frozen BK146.out 4
      go_wp2
      go_meet
      case rel => exact ⟨_, ((t144.size : Int)), (by first | rfl | (simp; done) | (simp [*]; done)), H', ⟨by first | omega | exact Nat.le_refl _⟩, ⟨by (with_reducible repeat (first | refine blk_drewN ?_ _ | refine blk_drew ?_ | refine blk_alloc ?_ _)); refine blk_far ?_ NB140_146.out _; (with_reducible repeat (first | refine blk_drewN ?_ _ | refine blk_drew ?_ | refine blk_alloc ?_ _)); refine blk_far ?_ NB140_146.out _; (with_reducible repeat (first | refine blk_drewN ?_ _ | refine blk_drew ?_ | refine blk_alloc ?_ _)); refine blk_far ?_ NB140_146.out _; (with_reducible repeat (first | refine blk_drewN ?_ _ | refine blk_drew ?_ | refine blk_alloc ?_ _)); refine blk_far ?_ NB140_146.out _; (with_reducible repeat (first | refine blk_drewN ?_ _ | refine blk_drew ?_ | refine blk_alloc ?_ _)); refine blk_far ?_ NB140_146.out _; (with_reducible repeat (first | refine blk_drewN ?_ _ | refine blk_drew ?_ | refine blk_alloc ?_ _)); exact BK140.out⟩, ⟨by (with_reducible repeat (first | refine blk_drewN ?_ _ | refine blk_drew ?_ | refine blk_alloc ?_ _)); refine blk_put (cs := #[.int .i64 t141, .int .i64 t142, .int .i64 t143, .string t144, .bool false]) ?_ 4 _ rfl; (with_reducible repeat (first | refine blk_drewN ?_ _ | refine blk_drew ?_ | refine blk_alloc ?_ _)); refine blk_put (cs := #[.int .i64 t141, .int .i64 t142, .int .i64 t143, .string (⟨#[]⟩ : ByteArray), .bool false]) ?_ 3 _ rfl; (with_reducible repeat (first | refine blk_drewN ?_ _ | refine blk_drew ?_ | refine blk_alloc ?_ _)); refine blk_put (cs := #[.int .i64 t141, .int .i64 t142, .int .i64 0, .string (⟨#[]⟩ : ByteArray), .bool false]) ?_ 2 _ rfl; (with_reducible repeat (first | refine blk_drewN ?_ _ | refine blk_drew ?_ | refine blk_alloc ?_ _)); refine blk_put (cs := #[.int .i64 t141, .int .i64 0, .int .i64 0, .string (⟨#[]⟩ : ByteArray), .bool false]) ?_ 1 _ rfl; (with_reducible repeat (first | refine blk_drewN ?_ _ | refine blk_drew ?_ | refine blk_alloc ?_ _)); refine blk_put (cs := #[.int .i64 0, .int .i64 0, .int .i64 0, .string (⟨#[]⟩ : ByteArray), .bool false]) ?_ 0 _ rfl; (with_reducible repeat (first | refine blk_drewN ?_ _ | refine blk_drew ?_ | refine blk_alloc ?_ _)); exact BK146.out⟩, ⟨by repeat (first | (with_reducible first | exact HB.out | apply below_alloc | apply pw_below_drewN | apply below_drew1 | refine below_set ?_ GE140.out | refine below_set ?_ GE146.out) | exact HB.out)⟩⟩
    · rw [if_neg c12] at H
      have c12b0 : (t141 == 1) = false := beq_eq_false_iff_ne.mpr c12
      have c12b1 : (t141 != 1) = true := bne_iff_ne.mpr c12
      (first | rw [c12b0] | (simp only [i64_w, i32_w]; rw [c12b0]) | rw [c12b1] | skip)
      have H' := Aside0.mk H
      clear H
      go_wp2
      go_meet
      case rel => exact ⟨_, (t143), (by first | rfl | (simp; done) | (simp [*]; done)), H', ⟨by first | omega | exact Nat.le_refl _⟩, ⟨by (with_reducible repeat (first | refine blk_drewN ?_ _ | refine blk_drew ?_ | refine blk_alloc ?_ _)); refine blk_far ?_ NB140_146.out _; (with_reducible repeat (first | refine blk_drewN ?_ _ | refine blk_drew ?_ | refine blk_alloc ?_ _)); refine blk_far ?_ NB140_146.out _; (with_reducible repeat (first | refine blk_drewN ?_ _ | refine blk_drew ?_ | refine blk_alloc ?_ _)); refine blk_far ?_ NB140_146.out _; (with_reducible repeat (first | refine blk_drewN ?_ _ | refine blk_drew ?_ | refine blk_alloc ?_ _)); refine blk_far ?_ NB140_146.out _; (with_reducible repeat (first | refine blk_drewN ?_ _ | refine blk_drew ?_ | refine blk_alloc ?_ _)); refine blk_far ?_ NB140_146.out _; (with_reducible repeat (first | refine blk_drewN ?_ _ | refine blk_drew ?_ | refine blk_alloc ?_ _)); exact BK140.out⟩, ⟨by (with_reducible repeat (first | refine blk_drewN ?_ _ | refine blk_drew ?_ | refine blk_alloc ?_ _)); refine blk_put (cs := #[.int .i64 t141, .int .i64 t142, .int .i64 t143, .string t144, .bool false]) ?_ 4 _ rfl; (with_reducible repeat (first | refine blk_drewN ?_ _ | refine blk_drew ?_ | refine blk_alloc ?_ _)); refine blk_put (cs := #[.int .i64 t141, .int .i64 t142, .int .i64 t143, .string (⟨#[]⟩ : ByteArray), .bool false]) ?_ 3 _ rfl; (with_reducible repeat (first | refine blk_drewN ?_ _ | refine blk_drew ?_ | refine blk_alloc ?_ _)); refine blk_put (cs := #[.int .i64 t141, .int .i64 t142, .int .i64 0, .string (⟨#[]⟩ : ByteArray), .bool false]) ?_ 2 _ rfl; (with_reducible repeat (first | refine blk_drewN ?_ _ | refine blk_drew ?_ | refine blk_alloc ?_ _)); refine blk_put (cs := #[.int .i64 t141, .int .i64 0, .int .i64 0, .string (⟨#[]⟩ : ByteArray), .bool false]) ?_ 1 _ rfl; (with_reducible repeat (first | refine blk_drewN ?_ _ | refine blk_drew ?_ | refine blk_alloc ?_ _)); refine blk_put (cs := #[.int .i64 0, .int .i64 0, .int .i64 0, .string (⟨#[]⟩ : ByteArray), .bool false]) ?_ 0 _ rfl; (with_reducible repeat (first | refine blk_drewN ?_ _ | refine blk_drew ?_ | refine blk_alloc ?_ _)); exact BK146.out⟩, ⟨by repeat (first | (with_reducible first | exact HB.out | apply below_alloc | apply pw_below_drewN | apply below_drew1 | refine below_set ?_ GE140.out | refine below_set ?_ GE146.out) | exact HB.out)⟩⟩
  case rest =>
    clear HC5
    try clear c1
    try clear c2
    try clear p2
    try clear c5
    try clear c10
    try clear c12
    try clear c12b0
    try clear c12b1
    try clear c13
    try clear hcz11_0
    try clear hcz11_1
    try clear hcz11_2
    try clear hcz11_3
    try clear hcz11_4
    try clear hcz14_0
    try clear hcz14_1
    try clear hcz14_2
    try clear hcz14_3
    try clear hcz14_4
    try clear hcz7_0
    try clear hcz7_1
    try clear hcz7_2
    try clear hcz7_3
    try clear hcz7_4
    try clear hfz11_0
    try clear hfz11_1
    try clear hfz11_2
    try clear hfz11_3
    try clear hfz11_4
    try clear hfz14_0
    try clear hfz14_1
    try clear hfz14_2
    try clear hfz14_3
    try clear hfz14_4
    try clear hfz7_0
    try clear hfz7_1
    try clear hfz7_2
    try clear hfz7_3
    try clear hfz7_4
    obtain ⟨kq, x9_4, rfl, HA, HJ4, BK140, BK146, HB⟩ := hcut
    cases kq with
    | zero => exact absurd HA.out (by simp [tarnlaw28_NeedMay.j0])
    | succ kj4 =>
      have H := HA.out
      clear HA
      simp only [tarnlaw28_NeedMay.j0] at H
      have HC15 := Aside0.mk H
      clear H
      have hnb16 := NB146_140.out
      have hnc16 := NB140_146.out
      have hcz17_0 : wc.cell? ⟨gb146, 0, none⟩ = some (.int .i64 t141) := (blk_cell BK146.out 0).trans rfl
      have hcz17_1 : wc.cell? ⟨gb146, 1, none⟩ = some (.int .i64 t142) := (blk_cell BK146.out 1).trans rfl
      have hcz17_2 : wc.cell? ⟨gb146, 2, none⟩ = some (.int .i64 t143) := (blk_cell BK146.out 2).trans rfl
      have hcz17_3 : wc.cell? ⟨gb146, 3, none⟩ = some (.string t144) := (blk_cell BK146.out 3).trans rfl
      have hcz17_4 : wc.cell? ⟨gb146, 4, none⟩ = some (.bool t145) := (blk_cell BK146.out 4).trans rfl
      have hfz17_0 := blk_frozen BK146.out 0
      have hfz17_1 := blk_frozen BK146.out 1
      have hfz17_2 := blk_frozen BK146.out 2
      have hfz17_3 := blk_frozen BK146.out 3
      have hfz17_4 := blk_frozen BK146.out 4
      go_upto_region 7 with (fail)
      go_cut [36] (fun v36 wc => ∃ (kq : Nat) (x36_14 : Bool), v36 = .bool x36_14 ∧ Aside0 (tarnlaw28_NeedMay.j1 kq (Go.bits .and .i64 a1 127) x9_4 (t141 == 3) x36_14 t141 t142 t143 t144 t145 = some r) ∧ Aside0 (kq ≤ kj4) ∧ Aside0 (wc.heap[gb140]? = some (.cells #[.int .i64 a0_0, .int .i64 a0_1, .int .i64 a0_2, .string a0_3, .bool a0_4] 59 (0, 0))) ∧ Aside0 (wc.heap[gb146]? = some (.cells #[.int .i64 t141, .int .i64 t142, .int .i64 t143, .string t144, .bool t145] 59 (0, 0))) ∧ Aside0 (Below w.heap.size w wc))
      case first =>
        have H := HC15.out
        clear HC15
        by_cases c18 : t141 ≥ 0
        · rw [if_pos c18] at H
          have c18b0 : decide (0 ≤ t141) = true := decide_eq_true c18
          clear c18
          (first | rw [c18b0] | (simp only [i64_w, i32_w]; rw [c18b0]) | rw [c18b1] | skip)
          have H' := Aside0.mk H
          clear H
          have hnb19 := NB146_140.out
          have hnc19 := NB140_146.out
          have hcz20_0 : wc.cell? ⟨gb146, 0, none⟩ = some (.int .i64 t141) := (blk_cell BK146.out 0).trans rfl
          have hcz20_1 : wc.cell? ⟨gb146, 1, none⟩ = some (.int .i64 t142) := (blk_cell BK146.out 1).trans rfl
          have hcz20_2 : wc.cell? ⟨gb146, 2, none⟩ = some (.int .i64 t143) := (blk_cell BK146.out 2).trans rfl
          have hcz20_3 : wc.cell? ⟨gb146, 3, none⟩ = some (.string t144) := (blk_cell BK146.out 3).trans rfl
          have hcz20_4 : wc.cell? ⟨gb146, 4, none⟩ = some (.bool t145) := (blk_cell BK146.out 4).trans rfl
          have hfz20_0 := blk_frozen BK146.out 0
          have hfz20_1 := blk_frozen BK146.out 1
          have hfz20_2 := blk_frozen BK146.out 2
          have hfz20_3 := blk_frozen BK146.out 3
          have hfz20_4 := blk_frozen BK146.out 4
          go_wp2
          go_meet
          case rel => exact ⟨_, (decide (t141 < 3)), (by first | rfl | (simp; done) | (simp [*]; done)), H', ⟨by have := HJ4.out; first | omega | exact Nat.le_refl _⟩, ⟨by (with_reducible repeat (first | refine blk_drewN ?_ _ | refine blk_drew ?_ | refine blk_alloc ?_ _)); exact BK140.out⟩, ⟨by (with_reducible repeat (first | refine blk_drewN ?_ _ | refine blk_drew ?_ | refine blk_alloc ?_ _)); exact BK146.out⟩, ⟨by repeat (first | (with_reducible first | exact HB.out | apply below_alloc | apply pw_below_drewN | apply below_drew1 | refine below_set ?_ GE140.out | refine below_set ?_ GE146.out) | exact HB.out)⟩⟩
        · rw [if_neg c18] at H
          have c18b0 : decide (0 ≤ t141) = false := decide_eq_false c18
          clear c18
          (first | rw [c18b0] | (simp only [i64_w, i32_w]; rw [c18b0]) | rw [c18b1] | skip)
          have H' := Aside0.mk H
          clear H
          have hnb21 := NB146_140.out
          have hnc21 := NB140_146.out
          have hcz22_0 : wc.cell? ⟨gb146, 0, none⟩ = some (.int .i64 t141) := (blk_cell BK146.out 0).trans rfl
          have hcz22_1 : wc.cell? ⟨gb146, 1, none⟩ = some (.int .i64 t142) := (blk_cell BK146.out 1).trans rfl
          have hcz22_2 : wc.cell? ⟨gb146, 2, none⟩ = some (.int .i64 t143) := (blk_cell BK146.out 2).trans rfl
          have hcz22_3 : wc.cell? ⟨gb146, 3, none⟩ = some (.string t144) := (blk_cell BK146.out 3).trans rfl
          have hcz22_4 : wc.cell? ⟨gb146, 4, none⟩ = some (.bool t145) := (blk_cell BK146.out 4).trans rfl
          have hfz22_0 := blk_frozen BK146.out 0
          have hfz22_1 := blk_frozen BK146.out 1
          have hfz22_2 := blk_frozen BK146.out 2
          have hfz22_3 := blk_frozen BK146.out 3
          have hfz22_4 := blk_frozen BK146.out 4
          go_wp2
          go_meet
          case rel => exact ⟨_, (false), (by first | rfl | (simp; done) | (simp [*]; done)), H', ⟨by have := HJ4.out; first | omega | exact Nat.le_refl _⟩, ⟨by (with_reducible repeat (first | refine blk_drewN ?_ _ | refine blk_drew ?_ | refine blk_alloc ?_ _)); exact BK140.out⟩, ⟨by (with_reducible repeat (first | refine blk_drewN ?_ _ | refine blk_drew ?_ | refine blk_alloc ?_ _)); exact BK146.out⟩, ⟨by repeat (first | (with_reducible first | exact HB.out | apply below_alloc | apply pw_below_drewN | apply below_drew1 | refine below_set ?_ GE140.out | refine below_set ?_ GE146.out) | exact HB.out)⟩⟩
      case rest =>
        clear HC15
        try clear c1
        try clear c2
        try clear p2
        try clear c5
        try clear c10
        try clear c12
        try clear c12b0
        try clear c12b1
        try clear c13
        try clear c16
        try clear c18
        try clear c18b0
        try clear c18b1
        try clear c19
        try clear c21
        try clear hcz11_0
        try clear hcz11_1
        try clear hcz11_2
        try clear hcz11_3
        try clear hcz11_4
        try clear hcz14_0
        try clear hcz14_1
        try clear hcz14_2
        try clear hcz14_3
        try clear hcz14_4
        try clear hcz17_0
        try clear hcz17_1
        try clear hcz17_2
        try clear hcz17_3
        try clear hcz17_4
        try clear hcz20_0
        try clear hcz20_1
        try clear hcz20_2
        try clear hcz20_3
        try clear hcz20_4
        try clear hcz22_0
        try clear hcz22_1
        try clear hcz22_2
        try clear hcz22_3
        try clear hcz22_4
        try clear hcz7_0
        try clear hcz7_1
        try clear hcz7_2
        try clear hcz7_3
        try clear hcz7_4
        try clear hfz11_0
        try clear hfz11_1
        try clear hfz11_2
        try clear hfz11_3
        try clear hfz11_4
        try clear hfz14_0
        try clear hfz14_1
        try clear hfz14_2
        try clear hfz14_3
        try clear hfz14_4
        try clear hfz17_0
        try clear hfz17_1
        try clear hfz17_2
        try clear hfz17_3
        try clear hfz17_4
        try clear hfz20_0
        try clear hfz20_1
        try clear hfz20_2
        try clear hfz20_3
        try clear hfz20_4
        try clear hfz22_0
        try clear hfz22_1
        try clear hfz22_2
        try clear hfz22_3
        try clear hfz22_4
        try clear hfz7_0
        try clear hfz7_1
        try clear hfz7_2
        try clear hfz7_3
        try clear hfz7_4
        try clear p2
        obtain ⟨kq, x36_14, rfl, HA, HJ14, BK140, BK146, HB⟩ := hcut
        cases kq with
        | zero => exact absurd HA.out (by simp [tarnlaw28_NeedMay.j1])
        | succ kj14 =>
          have H := HA.out
          clear HA
          simp only [tarnlaw28_NeedMay.j1] at H
          have HC23 := Aside0.mk H
          clear H
          go_upto_if 36 with (fail)
          go_cut [10] (fun v10 wc => ∃ (kq : Nat) (x10_22 : Bool), v10 = .bool x10_22 ∧ Aside0 (tarnlaw28_NeedMay.j2 kq (Go.bits .and .i64 a1 127) x9_4 x10_22 t141 t142 t143 t144 t145 = some r) ∧ Aside0 (kq ≤ kj14) ∧ Aside0 (wc.heap[gb140]? = some (.cells #[.int .i64 a0_0, .int .i64 a0_1, .int .i64 a0_2, .string a0_3, .bool a0_4] 59 (0, 0))) ∧ Aside0 (wc.heap[gb146]? = some (.cells #[.int .i64 t141, .int .i64 t142, .int .i64 t143, .string t144, .bool t145] 59 (0, 0))) ∧ Aside0 (Below w.heap.size w wc))
          case first =>
            have H := HC23.out
            clear HC23
            by_cases c24 : x36_14 = true
            · subst c24
              have H1 : (if t142 ≥ 0 then (if (Int.tmod t142 32) = 0 then (if x9_4 > 0 then (if (Int.tmod x9_4 32) = 0 then (if x9_4 ≤ 128 then (tarnlaw28_NeedMay.j2 kj14 (Go.bits .and .i64 a1 127) x9_4 (decide ((wrap64 (Int.tdiv t142 32)) ≤ (wrap64 ((mn (Go.bits .and .i64 a1 127) 64) - (wrap64 (Int.tdiv x9_4 32)))))) t141 t142 t143 t144 t145) else (tarnlaw28_NeedMay.j2 kj14 (Go.bits .and .i64 a1 127) x9_4 false t141 t142 t143 t144 t145)) else (tarnlaw28_NeedMay.j2 kj14 (Go.bits .and .i64 a1 127) x9_4 false t141 t142 t143 t144 t145)) else (tarnlaw28_NeedMay.j2 kj14 (Go.bits .and .i64 a1 127) x9_4 false t141 t142 t143 t144 t145)) else (tarnlaw28_NeedMay.j2 kj14 (Go.bits .and .i64 a1 127) x9_4 false t141 t142 t143 t144 t145)) else (tarnlaw28_NeedMay.j2 kj14 (Go.bits .and .i64 a1 127) x9_4 false t141 t142 t143 t144 t145)) = some r := by rw [if_pos rfl] at H; exact H
              clear H
              have H := H1
              clear H1
              by_cases c25 : t142 ≥ 0
              · rw [if_pos c25] at H
                have c25b0 : decide (0 ≤ t142) = true := decide_eq_true c25
                clear c25
                (first | rw [c25b0] | (simp only [i64_w, i32_w]; rw [c25b0]) | rw [c25b1] | skip)
                by_cases c26 : (Int.tmod t142 32) = 0
                · rw [if_pos c26] at H
                  have c26b0 : ((Int.tmod t142 32) == 0) = true := beq_iff_eq.mpr c26
                  have c26b1 : ((Int.tmod t142 32) != 0) = false := bne_eq_false_iff_eq.mpr c26
                  clear c26
                  by_cases c27 : x9_4 > 0
                  · rw [if_pos c27] at H
                    have c27b0 : decide (0 < x9_4) = true := decide_eq_true c27
                    clear c27
                    by_cases c28 : (Int.tmod x9_4 32) = 0
                    · rw [if_pos c28] at H
                      have c28b0 : ((Int.tmod x9_4 32) == 0) = true := beq_iff_eq.mpr c28
                      have c28b1 : ((Int.tmod x9_4 32) != 0) = false := bne_eq_false_iff_eq.mpr c28
                      clear c28
                      by_cases c29 : x9_4 ≤ 128
                      · rw [if_pos c29] at H
                        have c29b0 : decide (x9_4 ≤ 128) = true := decide_eq_true c29
                        clear c29
                        obtain ⟨ji30, hji30⟩ : ∃ j_ : Int, (mn (Go.bits .and .i64 a1 127) 64) = j_ := ⟨_, rfl⟩
                        replace H : (tarnlaw28_NeedMay.j2 kj14 (Go.bits .and .i64 a1 127) x9_4 (decide ((wrap64 (Int.tdiv t142 32)) ≤ (wrap64 ((ji30) - (wrap64 (Int.tdiv x9_4 32)))))) t141 t142 t143 t144 t145) = some r := by first | (rw [hji30] at H; exact H) | (simp only [hji30] at H ⊢; exact H)
                        have hji30_ : (if 64 < (Go.bits .and .i64 a1 127) then 64 else (Go.bits .and .i64 a1 127)) = ji30 := hji30
                        have H' := Aside0.mk H
                        clear H
                        have hnb31 := NB146_140.out
                        have hnc31 := NB140_146.out
                        have hcz32_0 : wc.cell? ⟨gb146, 0, none⟩ = some (.int .i64 t141) := (blk_cell BK146.out 0).trans rfl
                        have hcz32_1 : wc.cell? ⟨gb146, 1, none⟩ = some (.int .i64 t142) := (blk_cell BK146.out 1).trans rfl
                        have hcz32_2 : wc.cell? ⟨gb146, 2, none⟩ = some (.int .i64 t143) := (blk_cell BK146.out 2).trans rfl
                        have hcz32_3 : wc.cell? ⟨gb146, 3, none⟩ = some (.string t144) := (blk_cell BK146.out 3).trans rfl
                        have hcz32_4 : wc.cell? ⟨gb146, 4, none⟩ = some (.bool t145) := (blk_cell BK146.out 4).trans rfl
                        have hfz32_0 := blk_frozen BK146.out 0
                        have hfz32_1 := blk_frozen BK146.out 1
                        have hfz32_2 := blk_frozen BK146.out 2
                        have hfz32_3 := blk_frozen BK146.out 3
                        have hfz32_4 := blk_frozen BK146.out 4
                        go_wp2
                        go_meet
                        case rel => exact ⟨_, (decide ((wrap64 (Int.tdiv t142 32)) ≤ (wrap64 ((ji30) - (wrap64 (Int.tdiv x9_4 32)))))), (by first | rfl | (simp; done) | (simp only [← hji30] <;> (first | rfl | simp)) | (simp [*]; done)), H', ⟨by have := HJ4.out; have := HJ14.out; first | omega | exact Nat.le_refl _⟩, ⟨by (with_reducible repeat (first | refine blk_drewN ?_ _ | refine blk_drew ?_ | refine blk_alloc ?_ _)); exact BK140.out⟩, ⟨by (with_reducible repeat (first | refine blk_drewN ?_ _ | refine blk_drew ?_ | refine blk_alloc ?_ _)); exact BK146.out⟩, ⟨by repeat (first | (with_reducible first | exact HB.out | apply below_alloc | apply pw_below_drewN | apply below_drew1 | refine below_set ?_ GE140.out | refine below_set ?_ GE146.out) | exact HB.out)⟩⟩
                      · rw [if_neg c29] at H
                        have c29b0 : decide (x9_4 ≤ 128) = false := decide_eq_false c29
                        clear c29
                        have H' := Aside0.mk H
                        clear H
                        have hnb33 := NB146_140.out
                        have hnc33 := NB140_146.out
                        have hcz34_0 : wc.cell? ⟨gb146, 0, none⟩ = some (.int .i64 t141) := (blk_cell BK146.out 0).trans rfl
                        have hcz34_1 : wc.cell? ⟨gb146, 1, none⟩ = some (.int .i64 t142) := (blk_cell BK146.out 1).trans rfl
                        have hcz34_2 : wc.cell? ⟨gb146, 2, none⟩ = some (.int .i64 t143) := (blk_cell BK146.out 2).trans rfl
                        have hcz34_3 : wc.cell? ⟨gb146, 3, none⟩ = some (.string t144) := (blk_cell BK146.out 3).trans rfl
                        have hcz34_4 : wc.cell? ⟨gb146, 4, none⟩ = some (.bool t145) := (blk_cell BK146.out 4).trans rfl
                        have hfz34_0 := blk_frozen BK146.out 0
                        have hfz34_1 := blk_frozen BK146.out 1
                        have hfz34_2 := blk_frozen BK146.out 2
                        have hfz34_3 := blk_frozen BK146.out 3
                        have hfz34_4 := blk_frozen BK146.out 4
                        go_wp2
                        go_meet
                        case rel => exact ⟨_, (false), (by first | rfl | (simp; done) | (simp [*]; done)), H', ⟨by have := HJ4.out; have := HJ14.out; first | omega | exact Nat.le_refl _⟩, ⟨by (with_reducible repeat (first | refine blk_drewN ?_ _ | refine blk_drew ?_ | refine blk_alloc ?_ _)); exact BK140.out⟩, ⟨by (with_reducible repeat (first | refine blk_drewN ?_ _ | refine blk_drew ?_ | refine blk_alloc ?_ _)); exact BK146.out⟩, ⟨by repeat (first | (with_reducible first | exact HB.out | apply below_alloc | apply pw_below_drewN | apply below_drew1 | refine below_set ?_ GE140.out | refine below_set ?_ GE146.out) | exact HB.out)⟩⟩
                    · rw [if_neg c28] at H
                      have c28b0 : ((Int.tmod x9_4 32) == 0) = false := beq_eq_false_iff_ne.mpr c28
                      have c28b1 : ((Int.tmod x9_4 32) != 0) = true := bne_iff_ne.mpr c28
                      have H' := Aside0.mk H
                      clear H
                      have hnb35 := NB146_140.out
                      have hnc35 := NB140_146.out
                      have hcz36_0 : wc.cell? ⟨gb146, 0, none⟩ = some (.int .i64 t141) := (blk_cell BK146.out 0).trans rfl
                      have hcz36_1 : wc.cell? ⟨gb146, 1, none⟩ = some (.int .i64 t142) := (blk_cell BK146.out 1).trans rfl
                      have hcz36_2 : wc.cell? ⟨gb146, 2, none⟩ = some (.int .i64 t143) := (blk_cell BK146.out 2).trans rfl
                      have hcz36_3 : wc.cell? ⟨gb146, 3, none⟩ = some (.string t144) := (blk_cell BK146.out 3).trans rfl
                      have hcz36_4 : wc.cell? ⟨gb146, 4, none⟩ = some (.bool t145) := (blk_cell BK146.out 4).trans rfl
                      have hfz36_0 := blk_frozen BK146.out 0
                      have hfz36_1 := blk_frozen BK146.out 1
                      have hfz36_2 := blk_frozen BK146.out 2
                      have hfz36_3 := blk_frozen BK146.out 3
                      have hfz36_4 := blk_frozen BK146.out 4
                      go_wp2
                      go_meet
                      case rel => exact ⟨_, (false), (by first | rfl | (simp; done) | (simp [*]; done)), H', ⟨by have := HJ4.out; have := HJ14.out; first | omega | exact Nat.le_refl _⟩, ⟨by (with_reducible repeat (first | refine blk_drewN ?_ _ | refine blk_drew ?_ | refine blk_alloc ?_ _)); exact BK140.out⟩, ⟨by (with_reducible repeat (first | refine blk_drewN ?_ _ | refine blk_drew ?_ | refine blk_alloc ?_ _)); exact BK146.out⟩, ⟨by repeat (first | (with_reducible first | exact HB.out | apply below_alloc | apply pw_below_drewN | apply below_drew1 | refine below_set ?_ GE140.out | refine below_set ?_ GE146.out) | exact HB.out)⟩⟩
                  · rw [if_neg c27] at H
                    have c27b0 : decide (0 < x9_4) = false := decide_eq_false c27
                    clear c27
                    have H' := Aside0.mk H
                    clear H
                    have hnb37 := NB146_140.out
                    have hnc37 := NB140_146.out
                    have hcz38_0 : wc.cell? ⟨gb146, 0, none⟩ = some (.int .i64 t141) := (blk_cell BK146.out 0).trans rfl
                    have hcz38_1 : wc.cell? ⟨gb146, 1, none⟩ = some (.int .i64 t142) := (blk_cell BK146.out 1).trans rfl
                    have hcz38_2 : wc.cell? ⟨gb146, 2, none⟩ = some (.int .i64 t143) := (blk_cell BK146.out 2).trans rfl
                    have hcz38_3 : wc.cell? ⟨gb146, 3, none⟩ = some (.string t144) := (blk_cell BK146.out 3).trans rfl
                    have hcz38_4 : wc.cell? ⟨gb146, 4, none⟩ = some (.bool t145) := (blk_cell BK146.out 4).trans rfl
                    have hfz38_0 := blk_frozen BK146.out 0
                    have hfz38_1 := blk_frozen BK146.out 1
                    have hfz38_2 := blk_frozen BK146.out 2
                    have hfz38_3 := blk_frozen BK146.out 3
                    have hfz38_4 := blk_frozen BK146.out 4
                    go_wp2
                    go_meet
                    case rel => exact ⟨_, (false), (by first | rfl | (simp; done) | (simp [*]; done)), H', ⟨by have := HJ4.out; have := HJ14.out; first | omega | exact Nat.le_refl _⟩, ⟨by (with_reducible repeat (first | refine blk_drewN ?_ _ | refine blk_drew ?_ | refine blk_alloc ?_ _)); exact BK140.out⟩, ⟨by (with_reducible repeat (first | refine blk_drewN ?_ _ | refine blk_drew ?_ | refine blk_alloc ?_ _)); exact BK146.out⟩, ⟨by repeat (first | (with_reducible first | exact HB.out | apply below_alloc | apply pw_below_drewN | apply below_drew1 | refine below_set ?_ GE140.out | refine below_set ?_ GE146.out) | exact HB.out)⟩⟩
                · rw [if_neg c26] at H
                  have c26b0 : ((Int.tmod t142 32) == 0) = false := beq_eq_false_iff_ne.mpr c26
                  have c26b1 : ((Int.tmod t142 32) != 0) = true := bne_iff_ne.mpr c26
                  have H' := Aside0.mk H
                  clear H
                  have hnb39 := NB146_140.out
                  have hnc39 := NB140_146.out
                  have hcz40_0 : wc.cell? ⟨gb146, 0, none⟩ = some (.int .i64 t141) := (blk_cell BK146.out 0).trans rfl
                  have hcz40_1 : wc.cell? ⟨gb146, 1, none⟩ = some (.int .i64 t142) := (blk_cell BK146.out 1).trans rfl
                  have hcz40_2 : wc.cell? ⟨gb146, 2, none⟩ = some (.int .i64 t143) := (blk_cell BK146.out 2).trans rfl
                  have hcz40_3 : wc.cell? ⟨gb146, 3, none⟩ = some (.string t144) := (blk_cell BK146.out 3).trans rfl
                  have hcz40_4 : wc.cell? ⟨gb146, 4, none⟩ = some (.bool t145) := (blk_cell BK146.out 4).trans rfl
                  have hfz40_0 := blk_frozen BK146.out 0
                  have hfz40_1 := blk_frozen BK146.out 1
                  have hfz40_2 := blk_frozen BK146.out 2
                  have hfz40_3 := blk_frozen BK146.out 3
                  have hfz40_4 := blk_frozen BK146.out 4
                  go_wp2
                  go_meet
                  case rel => exact ⟨_, (false), (by first | rfl | (simp; done) | (simp [*]; done)), H', ⟨by have := HJ4.out; have := HJ14.out; first | omega | exact Nat.le_refl _⟩, ⟨by (with_reducible repeat (first | refine blk_drewN ?_ _ | refine blk_drew ?_ | refine blk_alloc ?_ _)); exact BK140.out⟩, ⟨by (with_reducible repeat (first | refine blk_drewN ?_ _ | refine blk_drew ?_ | refine blk_alloc ?_ _)); exact BK146.out⟩, ⟨by repeat (first | (with_reducible first | exact HB.out | apply below_alloc | apply pw_below_drewN | apply below_drew1 | refine below_set ?_ GE140.out | refine below_set ?_ GE146.out) | exact HB.out)⟩⟩
              · rw [if_neg c25] at H
                have c25b0 : decide (0 ≤ t142) = false := decide_eq_false c25
                clear c25
                (first | rw [c25b0] | (simp only [i64_w, i32_w]; rw [c25b0]) | rw [c25b1] | skip)
                have H' := Aside0.mk H
                clear H
                have hnb41 := NB146_140.out
                have hnc41 := NB140_146.out
                have hcz42_0 : wc.cell? ⟨gb146, 0, none⟩ = some (.int .i64 t141) := (blk_cell BK146.out 0).trans rfl
                have hcz42_1 : wc.cell? ⟨gb146, 1, none⟩ = some (.int .i64 t142) := (blk_cell BK146.out 1).trans rfl
                have hcz42_2 : wc.cell? ⟨gb146, 2, none⟩ = some (.int .i64 t143) := (blk_cell BK146.out 2).trans rfl
                have hcz42_3 : wc.cell? ⟨gb146, 3, none⟩ = some (.string t144) := (blk_cell BK146.out 3).trans rfl
                have hcz42_4 : wc.cell? ⟨gb146, 4, none⟩ = some (.bool t145) := (blk_cell BK146.out 4).trans rfl
                have hfz42_0 := blk_frozen BK146.out 0
                have hfz42_1 := blk_frozen BK146.out 1
                have hfz42_2 := blk_frozen BK146.out 2
                have hfz42_3 := blk_frozen BK146.out 3
                have hfz42_4 := blk_frozen BK146.out 4
                go_wp2
                go_meet
                case rel => exact ⟨_, (false), (by first | rfl | (simp; done) | (simp [*]; done)), H', ⟨by have := HJ4.out; have := HJ14.out; first | omega | exact Nat.le_refl _⟩, ⟨by (with_reducible repeat (first | refine blk_drewN ?_ _ | refine blk_drew ?_ | refine blk_alloc ?_ _)); exact BK140.out⟩, ⟨by (with_reducible repeat (first | refine blk_drewN ?_ _ | refine blk_drew ?_ | refine blk_alloc ?_ _)); exact BK146.out⟩, ⟨by repeat (first | (with_reducible first | exact HB.out | apply below_alloc | apply pw_below_drewN | apply below_drew1 | refine below_set ?_ GE140.out | refine below_set ?_ GE146.out) | exact HB.out)⟩⟩
            · replace c24 := Bool.eq_false_iff.mpr c24
              subst c24
              have H1 : (tarnlaw28_NeedMay.j2 kj14 (Go.bits .and .i64 a1 127) x9_4 (t141 == 3) t141 t142 t143 t144 t145) = some r := by rw [if_neg (show ¬ (false = true) by decide)] at H; exact H
              clear H
              have H := H1
              clear H1
              have H' := Aside0.mk H
              clear H
              go_wp2
              go_meet
              case rel => exact ⟨_, ((t141 == 3)), (by first | rfl | (simp; done) | (simp [*]; done)), H', ⟨by have := HJ4.out; have := HJ14.out; first | omega | exact Nat.le_refl _⟩, ⟨by (with_reducible repeat (first | refine blk_drewN ?_ _ | refine blk_drew ?_ | refine blk_alloc ?_ _)); exact BK140.out⟩, ⟨by (with_reducible repeat (first | refine blk_drewN ?_ _ | refine blk_drew ?_ | refine blk_alloc ?_ _)); exact BK146.out⟩, ⟨by repeat (first | (with_reducible first | exact HB.out | apply below_alloc | apply pw_below_drewN | apply below_drew1 | refine below_set ?_ GE140.out | refine below_set ?_ GE146.out) | exact HB.out)⟩⟩
          case rest =>
            clear HC23
            try clear c1
            try clear c2
            try clear p2
            try clear c3
            try clear c4
            try clear c5
            try clear p6
            try clear c10
            try clear c12
            try clear c12b0
            try clear c12b1
            try clear c13
            try clear c16
            try clear c18
            try clear c18b0
            try clear c18b1
            try clear c19
            try clear c21
            try clear c24
            try clear c25
            try clear c25b0
            try clear c25b1
            try clear c26
            try clear c26b0
            try clear c26b1
            try clear c27
            try clear c27b0
            try clear c28
            try clear c28b0
            try clear c28b1
            try clear c29
            try clear c29b0
            try clear c31
            try clear c33
            try clear c35
            try clear c37
            try clear c39
            try clear c41
            try clear hcz11_0
            try clear hcz11_1
            try clear hcz11_2
            try clear hcz11_3
            try clear hcz11_4
            try clear hcz14_0
            try clear hcz14_1
            try clear hcz14_2
            try clear hcz14_3
            try clear hcz14_4
            try clear hcz17_0
            try clear hcz17_1
            try clear hcz17_2
            try clear hcz17_3
            try clear hcz17_4
            try clear hcz20_0
            try clear hcz20_1
            try clear hcz20_2
            try clear hcz20_3
            try clear hcz20_4
            try clear hcz22_0
            try clear hcz22_1
            try clear hcz22_2
            try clear hcz22_3
            try clear hcz22_4
            try clear hcz32_0
            try clear hcz32_1
            try clear hcz32_2
            try clear hcz32_3
            try clear hcz32_4
            try clear hcz34_0
            try clear hcz34_1
            try clear hcz34_2
            try clear hcz34_3
            try clear hcz34_4
            try clear hcz36_0
            try clear hcz36_1
            try clear hcz36_2
            try clear hcz36_3
            try clear hcz36_4
            try clear hcz38_0
            try clear hcz38_1
            try clear hcz38_2
            try clear hcz38_3
            try clear hcz38_4
            try clear hcz40_0
            try clear hcz40_1
            try clear hcz40_2
            try clear hcz40_3
            try clear hcz40_4
            try clear hcz42_0
            try clear hcz42_1
            try clear hcz42_2
            try clear hcz42_3
            try clear hcz42_4
            try clear hcz7_0
            try clear hcz7_1
            try clear hcz7_2
            try clear hcz7_3
            try clear hcz7_4
            try clear hfz11_0
            try clear hfz11_1
            try clear hfz11_2
            try clear hfz11_3
            try clear hfz11_4
            try clear hfz14_0
            try clear hfz14_1
            try clear hfz14_2
            try clear hfz14_3
            try clear hfz14_4
            try clear hfz17_0
            try clear hfz17_1
            try clear hfz17_2
            try clear hfz17_3
            try clear hfz17_4
            try clear hfz20_0
            try clear hfz20_1
            try clear hfz20_2
            try clear hfz20_3
            try clear hfz20_4
            try clear hfz22_0
            try clear hfz22_1
            try clear hfz22_2
            try clear hfz22_3
            try clear hfz22_4
            try clear hfz32_0
            try clear hfz32_1
            try clear hfz32_2
            try clear hfz32_3
            try clear hfz32_4
            try clear hfz34_0
            try clear hfz34_1
            try clear hfz34_2
            try clear hfz34_3
            try clear hfz34_4
            try clear hfz36_0
            try clear hfz36_1
            try clear hfz36_2
            try clear hfz36_3
            try clear hfz36_4
            try clear hfz38_0
            try clear hfz38_1
            try clear hfz38_2
            try clear hfz38_3
            try clear hfz38_4
            try clear hfz40_0
            try clear hfz40_1
            try clear hfz40_2
            try clear hfz40_3
            try clear hfz40_4
            try clear hfz42_0
            try clear hfz42_1
            try clear hfz42_2
            try clear hfz42_3
            try clear hfz42_4
            try clear hfz7_0
            try clear hfz7_1
            try clear hfz7_2
            try clear hfz7_3
            try clear hfz7_4
            try clear p2
            obtain ⟨kq, x10_22, rfl, HA, HJ22, BK140, BK146, HB⟩ := hcut
            cases kq with
            | zero => exact absurd HA.out (by simp [tarnlaw28_NeedMay.j2])
            | succ kj22 =>
              have H := HA.out
              clear HA
              simp only [tarnlaw28_NeedMay.j2] at H
              replace H := Option.bind_eq_some_iff.mp H
              obtain ⟨t147, A430, H⟩ := H
              replace H : ((tarnlaw28_awake.f kj22).bind fun t148 => (if t148 = true then (if ((t147 == 0) == x10_22) = true then (if x10_22 = true then ((need_Size.f t141 t142 t143 t144 t145).bind fun t149 => (if t149 = x9_4 then ((need_Parts.f kj22 t141 t142 t143 t144 t145 (Go.bits .and .i64 a1 127)).bind fun t150 => (some ((decide ((t150.length : Int) > 0)) == (decide (t141 < 3))))) else (some false))) else (if t147 = 1 then ((need_Size.f t141 t142 t143 t144 t145).bind fun t153 => (if t153 = x9_4 then ((need_Parts.f kj22 t141 t142 t143 t144 t145 (Go.bits .and .i64 a1 127)).bind fun t154 => (some ((decide ((t154.length : Int) > 0)) == false))) else (some false))) else (some false))) else (some false)) else (some false))) = some r := H
              have A43 := Aside0.mk A430
              clear A430
              replace H := Option.bind_eq_some_iff.mp H
              obtain ⟨t148, A440, H⟩ := H
              replace H : (if t148 = true then (if ((t147 == 0) == x10_22) = true then (if x10_22 = true then ((need_Size.f t141 t142 t143 t144 t145).bind fun t149 => (if t149 = x9_4 then ((need_Parts.f kj22 t141 t142 t143 t144 t145 (Go.bits .and .i64 a1 127)).bind fun t150 => (some ((decide ((t150.length : Int) > 0)) == (decide (t141 < 3))))) else (some false))) else (if t147 = 1 then ((need_Size.f t141 t142 t143 t144 t145).bind fun t153 => (if t153 = x9_4 then ((need_Parts.f kj22 t141 t142 t143 t144 t145 (Go.bits .and .i64 a1 127)).bind fun t154 => (some ((decide ((t154.length : Int) > 0)) == false))) else (some false))) else (some false))) else (some false)) else (some false)) = some r := H
              have A44 := Aside0.mk A440
              clear A440
              by_cases c45 : t148 = true
              · subst c45
                have H1 : (if ((t147 == 0) == x10_22) = true then (if x10_22 = true then ((need_Size.f t141 t142 t143 t144 t145).bind fun t149 => (if t149 = x9_4 then ((need_Parts.f kj22 t141 t142 t143 t144 t145 (Go.bits .and .i64 a1 127)).bind fun t150 => (some ((decide ((t150.length : Int) > 0)) == (decide (t141 < 3))))) else (some false))) else (if t147 = 1 then ((need_Size.f t141 t142 t143 t144 t145).bind fun t153 => (if t153 = x9_4 then ((need_Parts.f kj22 t141 t142 t143 t144 t145 (Go.bits .and .i64 a1 127)).bind fun t154 => (some ((decide ((t154.length : Int) > 0)) == false))) else (some false))) else (some false))) else (some false)) = some r := by rw [if_pos rfl] at H; exact H
                clear H
                have H := H1
                clear H1
                by_cases c46 : ((t147 == 0) == x10_22) = true
                · rw [if_pos c46] at H
                  have c46b0 : ((t147 == 0) == x10_22) = true := c46
                  (try (have c46b1 : decide ((t147 == 0) = x10_22) = true := by simpa using c46))
                  (try (have c46b2 : ((t147 == 0) == x10_22) = true := by simpa using c46))
                  clear c46
                  by_cases c47 : x10_22 = true
                  · subst c47
                    have H1 : ((need_Size.f t141 t142 t143 t144 t145).bind fun t149 => (if t149 = x9_4 then ((need_Parts.f kj22 t141 t142 t143 t144 t145 (Go.bits .and .i64 a1 127)).bind fun t150 => (some ((decide ((t150.length : Int) > 0)) == (decide (t141 < 3))))) else (some false))) = some r := by rw [if_pos rfl] at H; exact H
                    clear H
                    have H := H1
                    clear H1
                    replace H := Option.bind_eq_some_iff.mp H
                    obtain ⟨t149, A480, H⟩ := H
                    replace H : (if t149 = x9_4 then ((need_Parts.f kj22 t141 t142 t143 t144 t145 (Go.bits .and .i64 a1 127)).bind fun t150 => (some ((decide ((t150.length : Int) > 0)) == (decide (t141 < 3))))) else (some false)) = some r := H
                    have A48 := Aside0.mk A480
                    clear A480
                    by_cases c49 : t149 = x9_4
                    · rw [if_pos c49] at H
                      have c49b0 : (t149 == x9_4) = true := beq_iff_eq.mpr c49
                      have c49b1 : (t149 != x9_4) = false := bne_eq_false_iff_eq.mpr c49
                      clear c49
                      replace H := Option.bind_eq_some_iff.mp H
                      obtain ⟨t150, A500, H⟩ := H
                      replace H : (some ((decide ((t150.length : Int) > 0)) == (decide (t141 < 3)))) = some r := H
                      have A50 := Aside0.mk A500
                      clear A500
                      obtain rfl := Option.some.inj H
                      have hnb51 := NB146_140.out
                      have hnc51 := NB140_146.out
                      have hcz52_0 : wc.cell? ⟨gb146, 0, none⟩ = some (.int .i64 t141) := (blk_cell BK146.out 0).trans rfl
                      have hcz52_1 : wc.cell? ⟨gb146, 1, none⟩ = some (.int .i64 t142) := (blk_cell BK146.out 1).trans rfl
                      have hcz52_2 : wc.cell? ⟨gb146, 2, none⟩ = some (.int .i64 t143) := (blk_cell BK146.out 2).trans rfl
                      have hcz52_3 : wc.cell? ⟨gb146, 3, none⟩ = some (.string t144) := (blk_cell BK146.out 3).trans rfl
                      have hcz52_4 : wc.cell? ⟨gb146, 4, none⟩ = some (.bool t145) := (blk_cell BK146.out 4).trans rfl
                      have hfz52_0 := blk_frozen BK146.out 0
                      have hfz52_1 := blk_frozen BK146.out 1
                      have hfz52_2 := blk_frozen BK146.out 2
                      have hfz52_3 := blk_frozen BK146.out 3
                      have hfz52_4 := blk_frozen BK146.out 4
                      go_wp2_with (first | ((with_reducible refine gate_callee (f := 28) rfl ?_); refine goesL_ (some 72) rfl rfl Try.func28 (by kernel_rfl) rfl #[.agg #[.int .i64 t141, .int .i64 t142, .int .i64 t143, .string t144, .bool t145], .int .i64 (Go.bits .and .i64 a1 127)] rfl (by (try simp only [List.map_toArray, List.map_cons, List.map_nil]); first | done | rfl | (simp only [List.length_drop, List.length_take]; rfl)) ?_; (with_reducible refine (need_May.calls kj22 t141 t142 t143 t144 t145 (Go.bits .and .i64 a1 127) t147 _ A43.out).mono ?_); rintro e w53 ⟨rfl, hb⟩; refine ⟨_, rfl, ?_⟩; have n0_ := Aside0.mk (blk_below (g := gb140) (o := .cells #[.int .i64 a0_0, .int .i64 a0_1, .int .i64 a0_2, .string a0_3, .bool a0_4] 59 (0, 0)) (by (with_reducible repeat (first | refine blk_drewN ?_ _ | refine blk_drew ?_ | refine blk_alloc ?_ _)); exact BK140.out) hb); have n1_ := Aside0.mk (blk_below (g := gb146) (o := .cells #[.int .i64 t141, .int .i64 t142, .int .i64 t143, .string t144, .bool t145] 59 (0, 0)) (by (with_reducible repeat (first | refine blk_drewN ?_ _ | refine blk_drew ?_ | refine blk_alloc ?_ _)); exact BK146.out) hb); have n2_ := Aside0.mk (below_step (by repeat (first | (with_reducible first | exact HB.out | apply below_alloc | apply pw_below_drewN | apply below_drew1 | refine below_set ?_ GE140.out | refine below_set ?_ GE146.out) | exact HB.out)) hb); clear BK140; clear BK146; clear HB; have BK140 := n0_; have BK146 := n1_; have HB := n2_; clear n0_ n1_ n2_; (try clear hb); (try clear hb2); (try clear hk); (try clear hi)) | ((with_reducible refine gate_callee (f := 29) rfl ?_); refine goesL_ (some 73) rfl rfl Try.func29 (by kernel_rfl) rfl #[] rfl (by (try simp only [List.map_toArray, List.map_cons, List.map_nil]); first | done | rfl | (simp only [List.length_drop, List.length_take]; rfl)) ?_; (with_reducible refine (tarnlaw28_awake.calls kj22  true _ A44.out).mono ?_); rintro e w54 ⟨rfl, hb⟩; refine ⟨_, rfl, ?_⟩; have n0_ := Aside0.mk (blk_below (g := gb140) (o := .cells #[.int .i64 a0_0, .int .i64 a0_1, .int .i64 a0_2, .string a0_3, .bool a0_4] 59 (0, 0)) (by (with_reducible repeat (first | refine blk_drewN ?_ _ | refine blk_drew ?_ | refine blk_alloc ?_ _)); exact BK140.out) hb); have n1_ := Aside0.mk (blk_below (g := gb146) (o := .cells #[.int .i64 t141, .int .i64 t142, .int .i64 t143, .string t144, .bool t145] 59 (0, 0)) (by (with_reducible repeat (first | refine blk_drewN ?_ _ | refine blk_drew ?_ | refine blk_alloc ?_ _)); exact BK146.out) hb); have n2_ := Aside0.mk (below_step (by repeat (first | (with_reducible first | exact HB.out | apply below_alloc | apply pw_below_drewN | apply below_drew1 | refine below_set ?_ GE140.out | refine below_set ?_ GE146.out) | exact HB.out)) hb); clear BK140; clear BK146; clear HB; have BK140 := n0_; have BK146 := n1_; have HB := n2_; clear n0_ n1_ n2_; (try clear hb); (try clear hb2); (try clear hk); (try clear hi); have hcz55_0 : w54.cell? ⟨gb146, 0, none⟩ = some (.int .i64 t141) := (blk_cell BK146.out 0).trans rfl; have hcz55_1 : w54.cell? ⟨gb146, 1, none⟩ = some (.int .i64 t142) := (blk_cell BK146.out 1).trans rfl; have hcz55_2 : w54.cell? ⟨gb146, 2, none⟩ = some (.int .i64 t143) := (blk_cell BK146.out 2).trans rfl; have hcz55_3 : w54.cell? ⟨gb146, 3, none⟩ = some (.string t144) := (blk_cell BK146.out 3).trans rfl; have hcz55_4 : w54.cell? ⟨gb146, 4, none⟩ = some (.bool t145) := (blk_cell BK146.out 4).trans rfl; have hfz55_0 := blk_frozen BK146.out 0; have hfz55_1 := blk_frozen BK146.out 1; have hfz55_2 := blk_frozen BK146.out 2; have hfz55_3 := blk_frozen BK146.out 3; have hfz55_4 := blk_frozen BK146.out 4) | (go_at_call 30; (with_reducible refine (need_Size.calls t141 t142 t143 t144 t145 t149 _ A48.out).mono ?_); rintro e w56 ⟨rfl, hb⟩; have n0_ := Aside0.mk (blk_below (g := gb140) (o := .cells #[.int .i64 a0_0, .int .i64 a0_1, .int .i64 a0_2, .string a0_3, .bool a0_4] 59 (0, 0)) (by (with_reducible repeat (first | refine blk_drewN ?_ _ | refine blk_drew ?_ | refine blk_alloc ?_ _)); exact BK140.out) hb); have n1_ := Aside0.mk (blk_below (g := gb146) (o := .cells #[.int .i64 t141, .int .i64 t142, .int .i64 t143, .string t144, .bool t145] 59 (0, 0)) (by (with_reducible repeat (first | refine blk_drewN ?_ _ | refine blk_drew ?_ | refine blk_alloc ?_ _)); exact BK146.out) hb); have n2_ := Aside0.mk (below_step (by repeat (first | (with_reducible first | exact HB.out | apply below_alloc | apply pw_below_drewN | apply below_drew1 | refine below_set ?_ GE140.out | refine below_set ?_ GE146.out) | exact HB.out)) hb); clear BK140; clear BK146; clear HB; have BK140 := n0_; have BK146 := n1_; have HB := n2_; clear n0_ n1_ n2_; (try clear hb); (try clear hb2); (try clear hk); (try clear hi); have hcz57_0 : w56.cell? ⟨gb146, 0, none⟩ = some (.int .i64 t141) := (blk_cell BK146.out 0).trans rfl; have hcz57_1 : w56.cell? ⟨gb146, 1, none⟩ = some (.int .i64 t142) := (blk_cell BK146.out 1).trans rfl; have hcz57_2 : w56.cell? ⟨gb146, 2, none⟩ = some (.int .i64 t143) := (blk_cell BK146.out 2).trans rfl; have hcz57_3 : w56.cell? ⟨gb146, 3, none⟩ = some (.string t144) := (blk_cell BK146.out 3).trans rfl; have hcz57_4 : w56.cell? ⟨gb146, 4, none⟩ = some (.bool t145) := (blk_cell BK146.out 4).trans rfl; have hfz57_0 := blk_frozen BK146.out 0; have hfz57_1 := blk_frozen BK146.out 1; have hfz57_2 := blk_frozen BK146.out 2; have hfz57_3 := blk_frozen BK146.out 3; have hfz57_4 := blk_frozen BK146.out 4) | (go_at_call 31; (with_reducible refine (need_Parts.calls kj22 t141 t142 t143 t144 t145 (Go.bits .and .i64 a1 127) t150 _ A50.out).mono ?_); rintro e w58 ⟨v151, rfl, ho0, hb⟩; have n0_ := Aside0.mk (Kd.R_lower ho0 (below_size (by repeat (first | (with_reducible first | exact HB.out | apply below_alloc | apply pw_below_drewN | apply below_drew1 | refine below_set ?_ GE140.out | refine below_set ?_ GE146.out) | exact HB.out)))); have n1_ := Aside0.mk (blk_below (g := gb140) (o := .cells #[.int .i64 a0_0, .int .i64 a0_1, .int .i64 a0_2, .string a0_3, .bool a0_4] 59 (0, 0)) (by (with_reducible repeat (first | refine blk_drewN ?_ _ | refine blk_drew ?_ | refine blk_alloc ?_ _)); exact BK140.out) hb); have n2_ := Aside0.mk (blk_below (g := gb146) (o := .cells #[.int .i64 t141, .int .i64 t142, .int .i64 t143, .string t144, .bool t145] 59 (0, 0)) (by (with_reducible repeat (first | refine blk_drewN ?_ _ | refine blk_drew ?_ | refine blk_alloc ?_ _)); exact BK146.out) hb); have n3_ := Aside0.mk (below_step (by repeat (first | (with_reducible first | exact HB.out | apply below_alloc | apply pw_below_drewN | apply below_drew1 | refine below_set ?_ GE140.out | refine below_set ?_ GE146.out) | exact HB.out)) hb); clear BK140; clear BK146; clear HB; have HO152 := n0_; have BK140 := n1_; have BK146 := n2_; have HB := n3_; clear n0_ n1_ n2_ n3_; (try clear hb); (try clear hb2); (try clear hk); (try clear hi); (try clear ho0); obtain ⟨Ao59, co59, eo59⟩ := Kd.R_slice HO152.out; subst eo59; have hcz60_0 : w58.cell? ⟨gb146, 0, none⟩ = some (.int .i64 t141) := (blk_cell BK146.out 0).trans rfl; have hcz60_1 : w58.cell? ⟨gb146, 1, none⟩ = some (.int .i64 t142) := (blk_cell BK146.out 1).trans rfl; have hcz60_2 : w58.cell? ⟨gb146, 2, none⟩ = some (.int .i64 t143) := (blk_cell BK146.out 2).trans rfl; have hcz60_3 : w58.cell? ⟨gb146, 3, none⟩ = some (.string t144) := (blk_cell BK146.out 3).trans rfl; have hcz60_4 : w58.cell? ⟨gb146, 4, none⟩ = some (.bool t145) := (blk_cell BK146.out 4).trans rfl; have hfz60_0 := blk_frozen BK146.out 0; have hfz60_1 := blk_frozen BK146.out 1; have hfz60_2 := blk_frozen BK146.out 2; have hfz60_3 := blk_frozen BK146.out 3; have hfz60_4 := blk_frozen BK146.out 4))
                      go_ret
                      exact ⟨by first | rfl | (simp [errW_none, errW_some] <;> rfl) | (simp [*, errW_none, errW_some] <;> rfl), by repeat (first | (with_reducible first | exact HB.out | apply below_alloc | apply pw_below_drewN | apply below_drew1 | refine below_set ?_ GE140.out | refine below_set ?_ GE146.out) | exact HB.out)⟩
                    · rw [if_neg c49] at H
                      have c49b0 : (t149 == x9_4) = false := beq_eq_false_iff_ne.mpr c49
                      have c49b1 : (t149 != x9_4) = true := bne_iff_ne.mpr c49
                      obtain rfl := Option.some.inj H
                      have hnb61 := NB146_140.out
                      have hnc61 := NB140_146.out
                      have hcz62_0 : wc.cell? ⟨gb146, 0, none⟩ = some (.int .i64 t141) := (blk_cell BK146.out 0).trans rfl
                      have hcz62_1 : wc.cell? ⟨gb146, 1, none⟩ = some (.int .i64 t142) := (blk_cell BK146.out 1).trans rfl
                      have hcz62_2 : wc.cell? ⟨gb146, 2, none⟩ = some (.int .i64 t143) := (blk_cell BK146.out 2).trans rfl
                      have hcz62_3 : wc.cell? ⟨gb146, 3, none⟩ = some (.string t144) := (blk_cell BK146.out 3).trans rfl
                      have hcz62_4 : wc.cell? ⟨gb146, 4, none⟩ = some (.bool t145) := (blk_cell BK146.out 4).trans rfl
                      have hfz62_0 := blk_frozen BK146.out 0
                      have hfz62_1 := blk_frozen BK146.out 1
                      have hfz62_2 := blk_frozen BK146.out 2
                      have hfz62_3 := blk_frozen BK146.out 3
                      have hfz62_4 := blk_frozen BK146.out 4
                      go_wp2_with (first | ((with_reducible refine gate_callee (f := 28) rfl ?_); refine goesL_ (some 72) rfl rfl Try.func28 (by kernel_rfl) rfl #[.agg #[.int .i64 t141, .int .i64 t142, .int .i64 t143, .string t144, .bool t145], .int .i64 (Go.bits .and .i64 a1 127)] rfl (by (try simp only [List.map_toArray, List.map_cons, List.map_nil]); first | done | rfl | (simp only [List.length_drop, List.length_take]; rfl)) ?_; (with_reducible refine (need_May.calls kj22 t141 t142 t143 t144 t145 (Go.bits .and .i64 a1 127) t147 _ A43.out).mono ?_); rintro e w63 ⟨rfl, hb⟩; refine ⟨_, rfl, ?_⟩; have n0_ := Aside0.mk (blk_below (g := gb140) (o := .cells #[.int .i64 a0_0, .int .i64 a0_1, .int .i64 a0_2, .string a0_3, .bool a0_4] 59 (0, 0)) (by (with_reducible repeat (first | refine blk_drewN ?_ _ | refine blk_drew ?_ | refine blk_alloc ?_ _)); exact BK140.out) hb); have n1_ := Aside0.mk (blk_below (g := gb146) (o := .cells #[.int .i64 t141, .int .i64 t142, .int .i64 t143, .string t144, .bool t145] 59 (0, 0)) (by (with_reducible repeat (first | refine blk_drewN ?_ _ | refine blk_drew ?_ | refine blk_alloc ?_ _)); exact BK146.out) hb); have n2_ := Aside0.mk (below_step (by repeat (first | (with_reducible first | exact HB.out | apply below_alloc | apply pw_below_drewN | apply below_drew1 | refine below_set ?_ GE140.out | refine below_set ?_ GE146.out) | exact HB.out)) hb); clear BK140; clear BK146; clear HB; have BK140 := n0_; have BK146 := n1_; have HB := n2_; clear n0_ n1_ n2_; (try clear hb); (try clear hb2); (try clear hk); (try clear hi)) | ((with_reducible refine gate_callee (f := 29) rfl ?_); refine goesL_ (some 73) rfl rfl Try.func29 (by kernel_rfl) rfl #[] rfl (by (try simp only [List.map_toArray, List.map_cons, List.map_nil]); first | done | rfl | (simp only [List.length_drop, List.length_take]; rfl)) ?_; (with_reducible refine (tarnlaw28_awake.calls kj22  true _ A44.out).mono ?_); rintro e w64 ⟨rfl, hb⟩; refine ⟨_, rfl, ?_⟩; have n0_ := Aside0.mk (blk_below (g := gb140) (o := .cells #[.int .i64 a0_0, .int .i64 a0_1, .int .i64 a0_2, .string a0_3, .bool a0_4] 59 (0, 0)) (by (with_reducible repeat (first | refine blk_drewN ?_ _ | refine blk_drew ?_ | refine blk_alloc ?_ _)); exact BK140.out) hb); have n1_ := Aside0.mk (blk_below (g := gb146) (o := .cells #[.int .i64 t141, .int .i64 t142, .int .i64 t143, .string t144, .bool t145] 59 (0, 0)) (by (with_reducible repeat (first | refine blk_drewN ?_ _ | refine blk_drew ?_ | refine blk_alloc ?_ _)); exact BK146.out) hb); have n2_ := Aside0.mk (below_step (by repeat (first | (with_reducible first | exact HB.out | apply below_alloc | apply pw_below_drewN | apply below_drew1 | refine below_set ?_ GE140.out | refine below_set ?_ GE146.out) | exact HB.out)) hb); clear BK140; clear BK146; clear HB; have BK140 := n0_; have BK146 := n1_; have HB := n2_; clear n0_ n1_ n2_; (try clear hb); (try clear hb2); (try clear hk); (try clear hi); have hcz65_0 : w64.cell? ⟨gb146, 0, none⟩ = some (.int .i64 t141) := (blk_cell BK146.out 0).trans rfl; have hcz65_1 : w64.cell? ⟨gb146, 1, none⟩ = some (.int .i64 t142) := (blk_cell BK146.out 1).trans rfl; have hcz65_2 : w64.cell? ⟨gb146, 2, none⟩ = some (.int .i64 t143) := (blk_cell BK146.out 2).trans rfl; have hcz65_3 : w64.cell? ⟨gb146, 3, none⟩ = some (.string t144) := (blk_cell BK146.out 3).trans rfl; have hcz65_4 : w64.cell? ⟨gb146, 4, none⟩ = some (.bool t145) := (blk_cell BK146.out 4).trans rfl; have hfz65_0 := blk_frozen BK146.out 0; have hfz65_1 := blk_frozen BK146.out 1; have hfz65_2 := blk_frozen BK146.out 2; have hfz65_3 := blk_frozen BK146.out 3; have hfz65_4 := blk_frozen BK146.out 4) | (go_at_call 30; (with_reducible refine (need_Size.calls t141 t142 t143 t144 t145 t149 _ A48.out).mono ?_); rintro e w66 ⟨rfl, hb⟩; have n0_ := Aside0.mk (blk_below (g := gb140) (o := .cells #[.int .i64 a0_0, .int .i64 a0_1, .int .i64 a0_2, .string a0_3, .bool a0_4] 59 (0, 0)) (by (with_reducible repeat (first | refine blk_drewN ?_ _ | refine blk_drew ?_ | refine blk_alloc ?_ _)); exact BK140.out) hb); have n1_ := Aside0.mk (blk_below (g := gb146) (o := .cells #[.int .i64 t141, .int .i64 t142, .int .i64 t143, .string t144, .bool t145] 59 (0, 0)) (by (with_reducible repeat (first | refine blk_drewN ?_ _ | refine blk_drew ?_ | refine blk_alloc ?_ _)); exact BK146.out) hb); have n2_ := Aside0.mk (below_step (by repeat (first | (with_reducible first | exact HB.out | apply below_alloc | apply pw_below_drewN | apply below_drew1 | refine below_set ?_ GE140.out | refine below_set ?_ GE146.out) | exact HB.out)) hb); clear BK140; clear BK146; clear HB; have BK140 := n0_; have BK146 := n1_; have HB := n2_; clear n0_ n1_ n2_; (try clear hb); (try clear hb2); (try clear hk); (try clear hi)))
                      go_ret
                      exact ⟨by first | rfl | (simp [errW_none, errW_some] <;> rfl) | (simp [*, errW_none, errW_some] <;> rfl), by repeat (first | (with_reducible first | exact HB.out | apply below_alloc | apply pw_below_drewN | apply below_drew1 | refine below_set ?_ GE140.out | refine below_set ?_ GE146.out) | exact HB.out)⟩
                  · replace c47 := Bool.eq_false_iff.mpr c47
                    subst c47
                    have H1 : (if t147 = 1 then ((need_Size.f t141 t142 t143 t144 t145).bind fun t153 => (if t153 = x9_4 then ((need_Parts.f kj22 t141 t142 t143 t144 t145 (Go.bits .and .i64 a1 127)).bind fun t154 => (some ((decide ((t154.length : Int) > 0)) == false))) else (some false))) else (some false)) = some r := by rw [if_neg (show ¬ (false = true) by decide)] at H; exact H
                    clear H
                    have H := H1
                    clear H1
                    by_cases c67 : t147 = 1
                    · rw [if_pos c67] at H
                      have c67b0 : (t147 == 1) = true := beq_iff_eq.mpr c67
                      have c67b1 : (t147 != 1) = false := bne_eq_false_iff_eq.mpr c67
                      clear c67
                      replace H := Option.bind_eq_some_iff.mp H
                      obtain ⟨t153, A680, H⟩ := H
                      replace H : (if t153 = x9_4 then ((need_Parts.f kj22 t141 t142 t143 t144 t145 (Go.bits .and .i64 a1 127)).bind fun t154 => (some ((decide ((t154.length : Int) > 0)) == false))) else (some false)) = some r := H
                      have A68 := Aside0.mk A680
                      clear A680
                      by_cases c69 : t153 = x9_4
                      · rw [if_pos c69] at H
                        have c69b0 : (t153 == x9_4) = true := beq_iff_eq.mpr c69
                        have c69b1 : (t153 != x9_4) = false := bne_eq_false_iff_eq.mpr c69
                        clear c69
                        replace H := Option.bind_eq_some_iff.mp H
                        obtain ⟨t154, A700, H⟩ := H
                        replace H : (some ((decide ((t154.length : Int) > 0)) == false)) = some r := H
                        have A70 := Aside0.mk A700
                        clear A700
                        obtain rfl := Option.some.inj H
                        have hnb71 := NB146_140.out
                        have hnc71 := NB140_146.out
                        have hcz72_0 : wc.cell? ⟨gb146, 0, none⟩ = some (.int .i64 t141) := (blk_cell BK146.out 0).trans rfl
                        have hcz72_1 : wc.cell? ⟨gb146, 1, none⟩ = some (.int .i64 t142) := (blk_cell BK146.out 1).trans rfl
                        have hcz72_2 : wc.cell? ⟨gb146, 2, none⟩ = some (.int .i64 t143) := (blk_cell BK146.out 2).trans rfl
                        have hcz72_3 : wc.cell? ⟨gb146, 3, none⟩ = some (.string t144) := (blk_cell BK146.out 3).trans rfl
                        have hcz72_4 : wc.cell? ⟨gb146, 4, none⟩ = some (.bool t145) := (blk_cell BK146.out 4).trans rfl
                        have hfz72_0 := blk_frozen BK146.out 0
                        have hfz72_1 := blk_frozen BK146.out 1
                        have hfz72_2 := blk_frozen BK146.out 2
                        have hfz72_3 := blk_frozen BK146.out 3
                        have hfz72_4 := blk_frozen BK146.out 4
                        go_wp2_with (first | ((with_reducible refine gate_callee (f := 28) rfl ?_); refine goesL_ (some 72) rfl rfl Try.func28 (by kernel_rfl) rfl #[.agg #[.int .i64 t141, .int .i64 t142, .int .i64 t143, .string t144, .bool t145], .int .i64 (Go.bits .and .i64 a1 127)] rfl (by (try simp only [List.map_toArray, List.map_cons, List.map_nil]); first | done | rfl | (simp only [List.length_drop, List.length_take]; rfl)) ?_; (with_reducible refine (need_May.calls kj22 t141 t142 t143 t144 t145 (Go.bits .and .i64 a1 127) t147 _ A43.out).mono ?_); rintro e w73 ⟨rfl, hb⟩; refine ⟨_, rfl, ?_⟩; have n0_ := Aside0.mk (blk_below (g := gb140) (o := .cells #[.int .i64 a0_0, .int .i64 a0_1, .int .i64 a0_2, .string a0_3, .bool a0_4] 59 (0, 0)) (by (with_reducible repeat (first | refine blk_drewN ?_ _ | refine blk_drew ?_ | refine blk_alloc ?_ _)); exact BK140.out) hb); have n1_ := Aside0.mk (blk_below (g := gb146) (o := .cells #[.int .i64 t141, .int .i64 t142, .int .i64 t143, .string t144, .bool t145] 59 (0, 0)) (by (with_reducible repeat (first | refine blk_drewN ?_ _ | refine blk_drew ?_ | refine blk_alloc ?_ _)); exact BK146.out) hb); have n2_ := Aside0.mk (below_step (by repeat (first | (with_reducible first | exact HB.out | apply below_alloc | apply pw_below_drewN | apply below_drew1 | refine below_set ?_ GE140.out | refine below_set ?_ GE146.out) | exact HB.out)) hb); clear BK140; clear BK146; clear HB; have BK140 := n0_; have BK146 := n1_; have HB := n2_; clear n0_ n1_ n2_; (try clear hb); (try clear hb2); (try clear hk); (try clear hi)) | ((with_reducible refine gate_callee (f := 29) rfl ?_); refine goesL_ (some 73) rfl rfl Try.func29 (by kernel_rfl) rfl #[] rfl (by (try simp only [List.map_toArray, List.map_cons, List.map_nil]); first | done | rfl | (simp only [List.length_drop, List.length_take]; rfl)) ?_; (with_reducible refine (tarnlaw28_awake.calls kj22  true _ A44.out).mono ?_); rintro e w74 ⟨rfl, hb⟩; refine ⟨_, rfl, ?_⟩; have n0_ := Aside0.mk (blk_below (g := gb140) (o := .cells #[.int .i64 a0_0, .int .i64 a0_1, .int .i64 a0_2, .string a0_3, .bool a0_4] 59 (0, 0)) (by (with_reducible repeat (first | refine blk_drewN ?_ _ | refine blk_drew ?_ | refine blk_alloc ?_ _)); exact BK140.out) hb); have n1_ := Aside0.mk (blk_below (g := gb146) (o := .cells #[.int .i64 t141, .int .i64 t142, .int .i64 t143, .string t144, .bool t145] 59 (0, 0)) (by (with_reducible repeat (first | refine blk_drewN ?_ _ | refine blk_drew ?_ | refine blk_alloc ?_ _)); exact BK146.out) hb); have n2_ := Aside0.mk (below_step (by repeat (first | (with_reducible first | exact HB.out | apply below_alloc | apply pw_below_drewN | apply below_drew1 | refine below_set ?_ GE140.out | refine below_set ?_ GE146.out) | exact HB.out)) hb); clear BK140; clear BK146; clear HB; have BK140 := n0_; have BK146 := n1_; have HB := n2_; clear n0_ n1_ n2_; (try clear hb); (try clear hb2); (try clear hk); (try clear hi); have hcz75_0 : w74.cell? ⟨gb146, 0, none⟩ = some (.int .i64 t141) := (blk_cell BK146.out 0).trans rfl; have hcz75_1 : w74.cell? ⟨gb146, 1, none⟩ = some (.int .i64 t142) := (blk_cell BK146.out 1).trans rfl; have hcz75_2 : w74.cell? ⟨gb146, 2, none⟩ = some (.int .i64 t143) := (blk_cell BK146.out 2).trans rfl; have hcz75_3 : w74.cell? ⟨gb146, 3, none⟩ = some (.string t144) := (blk_cell BK146.out 3).trans rfl; have hcz75_4 : w74.cell? ⟨gb146, 4, none⟩ = some (.bool t145) := (blk_cell BK146.out 4).trans rfl; have hfz75_0 := blk_frozen BK146.out 0; have hfz75_1 := blk_frozen BK146.out 1; have hfz75_2 := blk_frozen BK146.out 2; have hfz75_3 := blk_frozen BK146.out 3; have hfz75_4 := blk_frozen BK146.out 4) | (go_at_call 30; (with_reducible refine (need_Size.calls t141 t142 t143 t144 t145 t153 _ A68.out).mono ?_); rintro e w76 ⟨rfl, hb⟩; have n0_ := Aside0.mk (blk_below (g := gb140) (o := .cells #[.int .i64 a0_0, .int .i64 a0_1, .int .i64 a0_2, .string a0_3, .bool a0_4] 59 (0, 0)) (by (with_reducible repeat (first | refine blk_drewN ?_ _ | refine blk_drew ?_ | refine blk_alloc ?_ _)); exact BK140.out) hb); have n1_ := Aside0.mk (blk_below (g := gb146) (o := .cells #[.int .i64 t141, .int .i64 t142, .int .i64 t143, .string t144, .bool t145] 59 (0, 0)) (by (with_reducible repeat (first | refine blk_drewN ?_ _ | refine blk_drew ?_ | refine blk_alloc ?_ _)); exact BK146.out) hb); have n2_ := Aside0.mk (below_step (by repeat (first | (with_reducible first | exact HB.out | apply below_alloc | apply pw_below_drewN | apply below_drew1 | refine below_set ?_ GE140.out | refine below_set ?_ GE146.out) | exact HB.out)) hb); clear BK140; clear BK146; clear HB; have BK140 := n0_; have BK146 := n1_; have HB := n2_; clear n0_ n1_ n2_; (try clear hb); (try clear hb2); (try clear hk); (try clear hi); have hcz77_0 : w76.cell? ⟨gb146, 0, none⟩ = some (.int .i64 t141) := (blk_cell BK146.out 0).trans rfl; have hcz77_1 : w76.cell? ⟨gb146, 1, none⟩ = some (.int .i64 t142) := (blk_cell BK146.out 1).trans rfl; have hcz77_2 : w76.cell? ⟨gb146, 2, none⟩ = some (.int .i64 t143) := (blk_cell BK146.out 2).trans rfl; have hcz77_3 : w76.cell? ⟨gb146, 3, none⟩ = some (.string t144) := (blk_cell BK146.out 3).trans rfl; have hcz77_4 : w76.cell? ⟨gb146, 4, none⟩ = some (.bool t145) := (blk_cell BK146.out 4).trans rfl; have hfz77_0 := blk_frozen BK146.out 0; have hfz77_1 := blk_frozen BK146.out 1; have hfz77_2 := blk_frozen BK146.out 2; have hfz77_3 := blk_frozen BK146.out 3; have hfz77_4 := blk_frozen BK146.out 4) | (go_at_call 31; (with_reducible refine (need_Parts.calls kj22 t141 t142 t143 t144 t145 (Go.bits .and .i64 a1 127) t154 _ A70.out).mono ?_); rintro e w78 ⟨v155, rfl, ho0, hb⟩; have n0_ := Aside0.mk (Kd.R_lower ho0 (below_size (by repeat (first | (with_reducible first | exact HB.out | apply below_alloc | apply pw_below_drewN | apply below_drew1 | refine below_set ?_ GE140.out | refine below_set ?_ GE146.out) | exact HB.out)))); have n1_ := Aside0.mk (blk_below (g := gb140) (o := .cells #[.int .i64 a0_0, .int .i64 a0_1, .int .i64 a0_2, .string a0_3, .bool a0_4] 59 (0, 0)) (by (with_reducible repeat (first | refine blk_drewN ?_ _ | refine blk_drew ?_ | refine blk_alloc ?_ _)); exact BK140.out) hb); have n2_ := Aside0.mk (blk_below (g := gb146) (o := .cells #[.int .i64 t141, .int .i64 t142, .int .i64 t143, .string t144, .bool t145] 59 (0, 0)) (by (with_reducible repeat (first | refine blk_drewN ?_ _ | refine blk_drew ?_ | refine blk_alloc ?_ _)); exact BK146.out) hb); have n3_ := Aside0.mk (below_step (by repeat (first | (with_reducible first | exact HB.out | apply below_alloc | apply pw_below_drewN | apply below_drew1 | refine below_set ?_ GE140.out | refine below_set ?_ GE146.out) | exact HB.out)) hb); clear BK140; clear BK146; clear HB; have HO156 := n0_; have BK140 := n1_; have BK146 := n2_; have HB := n3_; clear n0_ n1_ n2_ n3_; (try clear hb); (try clear hb2); (try clear hk); (try clear hi); (try clear ho0); obtain ⟨Ao79, co79, eo79⟩ := Kd.R_slice HO156.out; subst eo79))
                        go_ret
                        exact ⟨by first | rfl | (simp [errW_none, errW_some] <;> rfl) | (simp [*, errW_none, errW_some] <;> rfl), by repeat (first | (with_reducible first | exact HB.out | apply below_alloc | apply pw_below_drewN | apply below_drew1 | refine below_set ?_ GE140.out | refine below_set ?_ GE146.out) | exact HB.out)⟩
                      · rw [if_neg c69] at H
                        have c69b0 : (t153 == x9_4) = false := beq_eq_false_iff_ne.mpr c69
                        have c69b1 : (t153 != x9_4) = true := bne_iff_ne.mpr c69
                        obtain rfl := Option.some.inj H
                        have hnb80 := NB146_140.out
                        have hnc80 := NB140_146.out
                        have hcz81_0 : wc.cell? ⟨gb146, 0, none⟩ = some (.int .i64 t141) := (blk_cell BK146.out 0).trans rfl
                        have hcz81_1 : wc.cell? ⟨gb146, 1, none⟩ = some (.int .i64 t142) := (blk_cell BK146.out 1).trans rfl
                        have hcz81_2 : wc.cell? ⟨gb146, 2, none⟩ = some (.int .i64 t143) := (blk_cell BK146.out 2).trans rfl
                        have hcz81_3 : wc.cell? ⟨gb146, 3, none⟩ = some (.string t144) := (blk_cell BK146.out 3).trans rfl
                        have hcz81_4 : wc.cell? ⟨gb146, 4, none⟩ = some (.bool t145) := (blk_cell BK146.out 4).trans rfl
                        have hfz81_0 := blk_frozen BK146.out 0
                        have hfz81_1 := blk_frozen BK146.out 1
                        have hfz81_2 := blk_frozen BK146.out 2
                        have hfz81_3 := blk_frozen BK146.out 3
                        have hfz81_4 := blk_frozen BK146.out 4
                        go_wp2_with (first | ((with_reducible refine gate_callee (f := 28) rfl ?_); refine goesL_ (some 72) rfl rfl Try.func28 (by kernel_rfl) rfl #[.agg #[.int .i64 t141, .int .i64 t142, .int .i64 t143, .string t144, .bool t145], .int .i64 (Go.bits .and .i64 a1 127)] rfl (by (try simp only [List.map_toArray, List.map_cons, List.map_nil]); first | done | rfl | (simp only [List.length_drop, List.length_take]; rfl)) ?_; (with_reducible refine (need_May.calls kj22 t141 t142 t143 t144 t145 (Go.bits .and .i64 a1 127) t147 _ A43.out).mono ?_); rintro e w82 ⟨rfl, hb⟩; refine ⟨_, rfl, ?_⟩; have n0_ := Aside0.mk (blk_below (g := gb140) (o := .cells #[.int .i64 a0_0, .int .i64 a0_1, .int .i64 a0_2, .string a0_3, .bool a0_4] 59 (0, 0)) (by (with_reducible repeat (first | refine blk_drewN ?_ _ | refine blk_drew ?_ | refine blk_alloc ?_ _)); exact BK140.out) hb); have n1_ := Aside0.mk (blk_below (g := gb146) (o := .cells #[.int .i64 t141, .int .i64 t142, .int .i64 t143, .string t144, .bool t145] 59 (0, 0)) (by (with_reducible repeat (first | refine blk_drewN ?_ _ | refine blk_drew ?_ | refine blk_alloc ?_ _)); exact BK146.out) hb); have n2_ := Aside0.mk (below_step (by repeat (first | (with_reducible first | exact HB.out | apply below_alloc | apply pw_below_drewN | apply below_drew1 | refine below_set ?_ GE140.out | refine below_set ?_ GE146.out) | exact HB.out)) hb); clear BK140; clear BK146; clear HB; have BK140 := n0_; have BK146 := n1_; have HB := n2_; clear n0_ n1_ n2_; (try clear hb); (try clear hb2); (try clear hk); (try clear hi)) | ((with_reducible refine gate_callee (f := 29) rfl ?_); refine goesL_ (some 73) rfl rfl Try.func29 (by kernel_rfl) rfl #[] rfl (by (try simp only [List.map_toArray, List.map_cons, List.map_nil]); first | done | rfl | (simp only [List.length_drop, List.length_take]; rfl)) ?_; (with_reducible refine (tarnlaw28_awake.calls kj22  true _ A44.out).mono ?_); rintro e w83 ⟨rfl, hb⟩; refine ⟨_, rfl, ?_⟩; have n0_ := Aside0.mk (blk_below (g := gb140) (o := .cells #[.int .i64 a0_0, .int .i64 a0_1, .int .i64 a0_2, .string a0_3, .bool a0_4] 59 (0, 0)) (by (with_reducible repeat (first | refine blk_drewN ?_ _ | refine blk_drew ?_ | refine blk_alloc ?_ _)); exact BK140.out) hb); have n1_ := Aside0.mk (blk_below (g := gb146) (o := .cells #[.int .i64 t141, .int .i64 t142, .int .i64 t143, .string t144, .bool t145] 59 (0, 0)) (by (with_reducible repeat (first | refine blk_drewN ?_ _ | refine blk_drew ?_ | refine blk_alloc ?_ _)); exact BK146.out) hb); have n2_ := Aside0.mk (below_step (by repeat (first | (with_reducible first | exact HB.out | apply below_alloc | apply pw_below_drewN | apply below_drew1 | refine below_set ?_ GE140.out | refine below_set ?_ GE146.out) | exact HB.out)) hb); clear BK140; clear BK146; clear HB; have BK140 := n0_; have BK146 := n1_; have HB := n2_; clear n0_ n1_ n2_; (try clear hb); (try clear hb2); (try clear hk); (try clear hi); have hcz84_0 : w83.cell? ⟨gb146, 0, none⟩ = some (.int .i64 t141) := (blk_cell BK146.out 0).trans rfl; have hcz84_1 : w83.cell? ⟨gb146, 1, none⟩ = some (.int .i64 t142) := (blk_cell BK146.out 1).trans rfl; have hcz84_2 : w83.cell? ⟨gb146, 2, none⟩ = some (.int .i64 t143) := (blk_cell BK146.out 2).trans rfl; have hcz84_3 : w83.cell? ⟨gb146, 3, none⟩ = some (.string t144) := (blk_cell BK146.out 3).trans rfl; have hcz84_4 : w83.cell? ⟨gb146, 4, none⟩ = some (.bool t145) := (blk_cell BK146.out 4).trans rfl; have hfz84_0 := blk_frozen BK146.out 0; have hfz84_1 := blk_frozen BK146.out 1; have hfz84_2 := blk_frozen BK146.out 2; have hfz84_3 := blk_frozen BK146.out 3; have hfz84_4 := blk_frozen BK146.out 4) | (go_at_call 30; (with_reducible refine (need_Size.calls t141 t142 t143 t144 t145 t153 _ A68.out).mono ?_); rintro e w85 ⟨rfl, hb⟩; have n0_ := Aside0.mk (blk_below (g := gb140) (o := .cells #[.int .i64 a0_0, .int .i64 a0_1, .int .i64 a0_2, .string a0_3, .bool a0_4] 59 (0, 0)) (by (with_reducible repeat (first | refine blk_drewN ?_ _ | refine blk_drew ?_ | refine blk_alloc ?_ _)); exact BK140.out) hb); have n1_ := Aside0.mk (blk_below (g := gb146) (o := .cells #[.int .i64 t141, .int .i64 t142, .int .i64 t143, .string t144, .bool t145] 59 (0, 0)) (by (with_reducible repeat (first | refine blk_drewN ?_ _ | refine blk_drew ?_ | refine blk_alloc ?_ _)); exact BK146.out) hb); have n2_ := Aside0.mk (below_step (by repeat (first | (with_reducible first | exact HB.out | apply below_alloc | apply pw_below_drewN | apply below_drew1 | refine below_set ?_ GE140.out | refine below_set ?_ GE146.out) | exact HB.out)) hb); clear BK140; clear BK146; clear HB; have BK140 := n0_; have BK146 := n1_; have HB := n2_; clear n0_ n1_ n2_; (try clear hb); (try clear hb2); (try clear hk); (try clear hi)))
                        go_ret
                        exact ⟨by first | rfl | (simp [errW_none, errW_some] <;> rfl) | (simp [*, errW_none, errW_some] <;> rfl), by repeat (first | (with_reducible first | exact HB.out | apply below_alloc | apply pw_below_drewN | apply below_drew1 | refine below_set ?_ GE140.out | refine below_set ?_ GE146.out) | exact HB.out)⟩
                    · rw [if_neg c67] at H
                      have c67b0 : (t147 == 1) = false := beq_eq_false_iff_ne.mpr c67
                      have c67b1 : (t147 != 1) = true := bne_iff_ne.mpr c67
                      obtain rfl := Option.some.inj H
                      have hnb86 := NB146_140.out
                      have hnc86 := NB140_146.out
                      have hcz87_0 : wc.cell? ⟨gb146, 0, none⟩ = some (.int .i64 t141) := (blk_cell BK146.out 0).trans rfl
                      have hcz87_1 : wc.cell? ⟨gb146, 1, none⟩ = some (.int .i64 t142) := (blk_cell BK146.out 1).trans rfl
                      have hcz87_2 : wc.cell? ⟨gb146, 2, none⟩ = some (.int .i64 t143) := (blk_cell BK146.out 2).trans rfl
                      have hcz87_3 : wc.cell? ⟨gb146, 3, none⟩ = some (.string t144) := (blk_cell BK146.out 3).trans rfl
                      have hcz87_4 : wc.cell? ⟨gb146, 4, none⟩ = some (.bool t145) := (blk_cell BK146.out 4).trans rfl
                      have hfz87_0 := blk_frozen BK146.out 0
                      have hfz87_1 := blk_frozen BK146.out 1
                      have hfz87_2 := blk_frozen BK146.out 2
                      have hfz87_3 := blk_frozen BK146.out 3
                      have hfz87_4 := blk_frozen BK146.out 4
                      go_wp2_with (first | ((with_reducible refine gate_callee (f := 28) rfl ?_); refine goesL_ (some 72) rfl rfl Try.func28 (by kernel_rfl) rfl #[.agg #[.int .i64 t141, .int .i64 t142, .int .i64 t143, .string t144, .bool t145], .int .i64 (Go.bits .and .i64 a1 127)] rfl (by (try simp only [List.map_toArray, List.map_cons, List.map_nil]); first | done | rfl | (simp only [List.length_drop, List.length_take]; rfl)) ?_; (with_reducible refine (need_May.calls kj22 t141 t142 t143 t144 t145 (Go.bits .and .i64 a1 127) t147 _ A43.out).mono ?_); rintro e w88 ⟨rfl, hb⟩; refine ⟨_, rfl, ?_⟩; have n0_ := Aside0.mk (blk_below (g := gb140) (o := .cells #[.int .i64 a0_0, .int .i64 a0_1, .int .i64 a0_2, .string a0_3, .bool a0_4] 59 (0, 0)) (by (with_reducible repeat (first | refine blk_drewN ?_ _ | refine blk_drew ?_ | refine blk_alloc ?_ _)); exact BK140.out) hb); have n1_ := Aside0.mk (blk_below (g := gb146) (o := .cells #[.int .i64 t141, .int .i64 t142, .int .i64 t143, .string t144, .bool t145] 59 (0, 0)) (by (with_reducible repeat (first | refine blk_drewN ?_ _ | refine blk_drew ?_ | refine blk_alloc ?_ _)); exact BK146.out) hb); have n2_ := Aside0.mk (below_step (by repeat (first | (with_reducible first | exact HB.out | apply below_alloc | apply pw_below_drewN | apply below_drew1 | refine below_set ?_ GE140.out | refine below_set ?_ GE146.out) | exact HB.out)) hb); clear BK140; clear BK146; clear HB; have BK140 := n0_; have BK146 := n1_; have HB := n2_; clear n0_ n1_ n2_; (try clear hb); (try clear hb2); (try clear hk); (try clear hi)) | ((with_reducible refine gate_callee (f := 29) rfl ?_); refine goesL_ (some 73) rfl rfl Try.func29 (by kernel_rfl) rfl #[] rfl (by (try simp only [List.map_toArray, List.map_cons, List.map_nil]); first | done | rfl | (simp only [List.length_drop, List.length_take]; rfl)) ?_; (with_reducible refine (tarnlaw28_awake.calls kj22  true _ A44.out).mono ?_); rintro e w89 ⟨rfl, hb⟩; refine ⟨_, rfl, ?_⟩; have n0_ := Aside0.mk (blk_below (g := gb140) (o := .cells #[.int .i64 a0_0, .int .i64 a0_1, .int .i64 a0_2, .string a0_3, .bool a0_4] 59 (0, 0)) (by (with_reducible repeat (first | refine blk_drewN ?_ _ | refine blk_drew ?_ | refine blk_alloc ?_ _)); exact BK140.out) hb); have n1_ := Aside0.mk (blk_below (g := gb146) (o := .cells #[.int .i64 t141, .int .i64 t142, .int .i64 t143, .string t144, .bool t145] 59 (0, 0)) (by (with_reducible repeat (first | refine blk_drewN ?_ _ | refine blk_drew ?_ | refine blk_alloc ?_ _)); exact BK146.out) hb); have n2_ := Aside0.mk (below_step (by repeat (first | (with_reducible first | exact HB.out | apply below_alloc | apply pw_below_drewN | apply below_drew1 | refine below_set ?_ GE140.out | refine below_set ?_ GE146.out) | exact HB.out)) hb); clear BK140; clear BK146; clear HB; have BK140 := n0_; have BK146 := n1_; have HB := n2_; clear n0_ n1_ n2_; (try clear hb); (try clear hb2); (try clear hk); (try clear hi)))
                      go_ret
                      exact ⟨by first | rfl | (simp [errW_none, errW_some] <;> rfl) | (simp [*, errW_none, errW_some] <;> rfl), by repeat (first | (with_reducible first | exact HB.out | apply below_alloc | apply pw_below_drewN | apply below_drew1 | refine below_set ?_ GE140.out | refine below_set ?_ GE146.out) | exact HB.out)⟩
                · rw [if_neg c46] at H
                  have c46b0 : ((t147 == 0) == x10_22) = false := by simpa using c46
                  (try (have c46b1 : decide ((t147 == 0) = x10_22) = false := by simpa using c46))
                  (try (have c46b2 : ((t147 == 0) == x10_22) = false := by simpa using c46))
                  (try (have c46b3 : ¬ ((t147 == 0) = x10_22) := by simpa using c46))
                  clear c46
                  obtain rfl := Option.some.inj H
                  have hnb90 := NB146_140.out
                  have hnc90 := NB140_146.out
                  have hcz91_0 : wc.cell? ⟨gb146, 0, none⟩ = some (.int .i64 t141) := (blk_cell BK146.out 0).trans rfl
                  have hcz91_1 : wc.cell? ⟨gb146, 1, none⟩ = some (.int .i64 t142) := (blk_cell BK146.out 1).trans rfl
                  have hcz91_2 : wc.cell? ⟨gb146, 2, none⟩ = some (.int .i64 t143) := (blk_cell BK146.out 2).trans rfl
                  have hcz91_3 : wc.cell? ⟨gb146, 3, none⟩ = some (.string t144) := (blk_cell BK146.out 3).trans rfl
                  have hcz91_4 : wc.cell? ⟨gb146, 4, none⟩ = some (.bool t145) := (blk_cell BK146.out 4).trans rfl
                  have hfz91_0 := blk_frozen BK146.out 0
                  have hfz91_1 := blk_frozen BK146.out 1
                  have hfz91_2 := blk_frozen BK146.out 2
                  have hfz91_3 := blk_frozen BK146.out 3
                  have hfz91_4 := blk_frozen BK146.out 4
                  go_wp2_with (first | ((with_reducible refine gate_callee (f := 28) rfl ?_); refine goesL_ (some 72) rfl rfl Try.func28 (by kernel_rfl) rfl #[.agg #[.int .i64 t141, .int .i64 t142, .int .i64 t143, .string t144, .bool t145], .int .i64 (Go.bits .and .i64 a1 127)] rfl (by (try simp only [List.map_toArray, List.map_cons, List.map_nil]); first | done | rfl | (simp only [List.length_drop, List.length_take]; rfl)) ?_; (with_reducible refine (need_May.calls kj22 t141 t142 t143 t144 t145 (Go.bits .and .i64 a1 127) t147 _ A43.out).mono ?_); rintro e w92 ⟨rfl, hb⟩; refine ⟨_, rfl, ?_⟩; have n0_ := Aside0.mk (blk_below (g := gb140) (o := .cells #[.int .i64 a0_0, .int .i64 a0_1, .int .i64 a0_2, .string a0_3, .bool a0_4] 59 (0, 0)) (by (with_reducible repeat (first | refine blk_drewN ?_ _ | refine blk_drew ?_ | refine blk_alloc ?_ _)); exact BK140.out) hb); have n1_ := Aside0.mk (blk_below (g := gb146) (o := .cells #[.int .i64 t141, .int .i64 t142, .int .i64 t143, .string t144, .bool t145] 59 (0, 0)) (by (with_reducible repeat (first | refine blk_drewN ?_ _ | refine blk_drew ?_ | refine blk_alloc ?_ _)); exact BK146.out) hb); have n2_ := Aside0.mk (below_step (by repeat (first | (with_reducible first | exact HB.out | apply below_alloc | apply pw_below_drewN | apply below_drew1 | refine below_set ?_ GE140.out | refine below_set ?_ GE146.out) | exact HB.out)) hb); clear BK140; clear BK146; clear HB; have BK140 := n0_; have BK146 := n1_; have HB := n2_; clear n0_ n1_ n2_; (try clear hb); (try clear hb2); (try clear hk); (try clear hi)) | ((with_reducible refine gate_callee (f := 29) rfl ?_); refine goesL_ (some 73) rfl rfl Try.func29 (by kernel_rfl) rfl #[] rfl (by (try simp only [List.map_toArray, List.map_cons, List.map_nil]); first | done | rfl | (simp only [List.length_drop, List.length_take]; rfl)) ?_; (with_reducible refine (tarnlaw28_awake.calls kj22  true _ A44.out).mono ?_); rintro e w93 ⟨rfl, hb⟩; refine ⟨_, rfl, ?_⟩; have n0_ := Aside0.mk (blk_below (g := gb140) (o := .cells #[.int .i64 a0_0, .int .i64 a0_1, .int .i64 a0_2, .string a0_3, .bool a0_4] 59 (0, 0)) (by (with_reducible repeat (first | refine blk_drewN ?_ _ | refine blk_drew ?_ | refine blk_alloc ?_ _)); exact BK140.out) hb); have n1_ := Aside0.mk (blk_below (g := gb146) (o := .cells #[.int .i64 t141, .int .i64 t142, .int .i64 t143, .string t144, .bool t145] 59 (0, 0)) (by (with_reducible repeat (first | refine blk_drewN ?_ _ | refine blk_drew ?_ | refine blk_alloc ?_ _)); exact BK146.out) hb); have n2_ := Aside0.mk (below_step (by repeat (first | (with_reducible first | exact HB.out | apply below_alloc | apply pw_below_drewN | apply below_drew1 | refine below_set ?_ GE140.out | refine below_set ?_ GE146.out) | exact HB.out)) hb); clear BK140; clear BK146; clear HB; have BK140 := n0_; have BK146 := n1_; have HB := n2_; clear n0_ n1_ n2_; (try clear hb); (try clear hb2); (try clear hk); (try clear hi)))
                  go_ret
                  exact ⟨by first | rfl | (simp [errW_none, errW_some] <;> rfl) | (simp [*, errW_none, errW_some] <;> rfl), by repeat (first | (with_reducible first | exact HB.out | apply below_alloc | apply pw_below_drewN | apply below_drew1 | refine below_set ?_ GE140.out | refine below_set ?_ GE146.out) | exact HB.out)⟩
              · replace c45 := Bool.eq_false_iff.mpr c45
                subst c45
                have H1 : (some false) = some r := by rw [if_neg (show ¬ (false = true) by decide)] at H; exact H
                clear H
                have H := H1
                clear H1
                obtain rfl := Option.some.inj H
                have hnb94 := NB146_140.out
                have hnc94 := NB140_146.out
                have hcz95_0 : wc.cell? ⟨gb146, 0, none⟩ = some (.int .i64 t141) := (blk_cell BK146.out 0).trans rfl
                have hcz95_1 : wc.cell? ⟨gb146, 1, none⟩ = some (.int .i64 t142) := (blk_cell BK146.out 1).trans rfl
                have hcz95_2 : wc.cell? ⟨gb146, 2, none⟩ = some (.int .i64 t143) := (blk_cell BK146.out 2).trans rfl
                have hcz95_3 : wc.cell? ⟨gb146, 3, none⟩ = some (.string t144) := (blk_cell BK146.out 3).trans rfl
                have hcz95_4 : wc.cell? ⟨gb146, 4, none⟩ = some (.bool t145) := (blk_cell BK146.out 4).trans rfl
                have hfz95_0 := blk_frozen BK146.out 0
                have hfz95_1 := blk_frozen BK146.out 1
                have hfz95_2 := blk_frozen BK146.out 2
                have hfz95_3 := blk_frozen BK146.out 3
                have hfz95_4 := blk_frozen BK146.out 4
                go_wp2_with (first | ((with_reducible refine gate_callee (f := 28) rfl ?_); refine goesL_ (some 72) rfl rfl Try.func28 (by kernel_rfl) rfl #[.agg #[.int .i64 t141, .int .i64 t142, .int .i64 t143, .string t144, .bool t145], .int .i64 (Go.bits .and .i64 a1 127)] rfl (by (try simp only [List.map_toArray, List.map_cons, List.map_nil]); first | done | rfl | (simp only [List.length_drop, List.length_take]; rfl)) ?_; (with_reducible refine (need_May.calls kj22 t141 t142 t143 t144 t145 (Go.bits .and .i64 a1 127) t147 _ A43.out).mono ?_); rintro e w96 ⟨rfl, hb⟩; refine ⟨_, rfl, ?_⟩; have n0_ := Aside0.mk (blk_below (g := gb140) (o := .cells #[.int .i64 a0_0, .int .i64 a0_1, .int .i64 a0_2, .string a0_3, .bool a0_4] 59 (0, 0)) (by (with_reducible repeat (first | refine blk_drewN ?_ _ | refine blk_drew ?_ | refine blk_alloc ?_ _)); exact BK140.out) hb); have n1_ := Aside0.mk (blk_below (g := gb146) (o := .cells #[.int .i64 t141, .int .i64 t142, .int .i64 t143, .string t144, .bool t145] 59 (0, 0)) (by (with_reducible repeat (first | refine blk_drewN ?_ _ | refine blk_drew ?_ | refine blk_alloc ?_ _)); exact BK146.out) hb); have n2_ := Aside0.mk (below_step (by repeat (first | (with_reducible first | exact HB.out | apply below_alloc | apply pw_below_drewN | apply below_drew1 | refine below_set ?_ GE140.out | refine below_set ?_ GE146.out) | exact HB.out)) hb); clear BK140; clear BK146; clear HB; have BK140 := n0_; have BK146 := n1_; have HB := n2_; clear n0_ n1_ n2_; (try clear hb); (try clear hb2); (try clear hk); (try clear hi)) | ((with_reducible refine gate_callee (f := 29) rfl ?_); refine goesL_ (some 73) rfl rfl Try.func29 (by kernel_rfl) rfl #[] rfl (by (try simp only [List.map_toArray, List.map_cons, List.map_nil]); first | done | rfl | (simp only [List.length_drop, List.length_take]; rfl)) ?_; (with_reducible refine (tarnlaw28_awake.calls kj22  false _ A44.out).mono ?_); rintro e w97 ⟨rfl, hb⟩; refine ⟨_, rfl, ?_⟩; have n0_ := Aside0.mk (blk_below (g := gb140) (o := .cells #[.int .i64 a0_0, .int .i64 a0_1, .int .i64 a0_2, .string a0_3, .bool a0_4] 59 (0, 0)) (by (with_reducible repeat (first | refine blk_drewN ?_ _ | refine blk_drew ?_ | refine blk_alloc ?_ _)); exact BK140.out) hb); have n1_ := Aside0.mk (blk_below (g := gb146) (o := .cells #[.int .i64 t141, .int .i64 t142, .int .i64 t143, .string t144, .bool t145] 59 (0, 0)) (by (with_reducible repeat (first | refine blk_drewN ?_ _ | refine blk_drew ?_ | refine blk_alloc ?_ _)); exact BK146.out) hb); have n2_ := Aside0.mk (below_step (by repeat (first | (with_reducible first | exact HB.out | apply below_alloc | apply pw_below_drewN | apply below_drew1 | refine below_set ?_ GE140.out | refine below_set ?_ GE146.out) | exact HB.out)) hb); clear BK140; clear BK146; clear HB; have BK140 := n0_; have BK146 := n1_; have HB := n2_; clear n0_ n1_ n2_; (try clear hb); (try clear hb2); (try clear hk); (try clear hi)))
                go_ret
                exact ⟨by first | rfl | (simp [errW_none, errW_some] <;> rfl) | (simp [*, errW_none, errW_some] <;> rfl), by repeat (first | (with_reducible first | exact HB.out | apply below_alloc | apply pw_below_drewN | apply below_drew1 | refine below_set ?_ GE140.out | refine below_set ?_ GE146.out) | exact HB.out)⟩

/-- THE ONE PURE STATEMENT of tarnlaw28_NeedMay: yours. -/
def tarnlaw28_NeedMay.Pure : Prop := ∀ (a0_0 : Int) (a0_1 : Int) (a0_2 : Int) (a0_3 : ByteArray) (a0_4 : Bool) (a1 : Int) (a2 : Int), Wf59 (⟨a0_0, a0_1, a0_2, a0_3, a0_4⟩ : S59) → (Lit.int .i64 a1).wf = true → (Lit.int .i64 a2).wf = true → ∃ k, tarnlaw28_NeedMay.f k a0_0 a0_1 a0_2 a0_3 a0_4 a1 a2 = some true
theorem tarnlaw28_NeedMay.walk (P : tarnlaw28_NeedMay.Pure) (a0_0 : Int) (a0_1 : Int) (a0_2 : Int) (a0_3 : ByteArray) (a0_4 : Bool) (a1 : Int) (a2 : Int) (w : World) (w0 : Wf59 (⟨a0_0, a0_1, a0_2, a0_3, a0_4⟩ : S59)) (w1 : (Lit.int .i64 a1).wf = true) (w2 : (Lit.int .i64 a2).wf = true) :
    Calls Try.prog 5 #[.agg #[.int .i64 a0_0, .int .i64 a0_1, .int .i64 a0_2, .string a0_3, .bool a0_4], .int .i64 a1, .int .i64 a2] w fun e w' => e = .returned (.bool true) ∧ Below w.heap.size w w' := by
  obtain ⟨k, h⟩ := P a0_0 a0_1 a0_2 a0_3 a0_4 a1 a2 w0 w1 w2
  refine (tarnlaw28_NeedMay.calls k a0_0 a0_1 a0_2 a0_3 a0_4 a1 a2 true w  h).mono ?_
  rintro e w' ⟨rfl, hd⟩
  exact ⟨rfl, hd⟩

end Go.Proofs.Ytfblmfefcgmpfab.PNeed
