-- Printed by wip/xprint of this session, over the kit's print: Lean functions for Go functions, and their contracts.
import Derived.Test.YtfblmfefcgmpfabPNeedx0
import Derived.Test.YtfblmfefcgmpfabPNeedx1
import Derived.Test.YtfblmfefcgmpfabPNeedx2
import Derived.Test.YtfblmfefcgmpfabPNeedx4
import Derived.Test.YtfblmfefcgmpfabPNeedx5
import Derived.Test.YtfblmfefcgmpfabPNeedx6
import Derived.Test.YtfblmfefcgmpfabPNeedx7
namespace Go.Proofs.Ytfblmfefcgmpfab.PNeed
open Go.RowKit Go.Proofs.YtfblmfefcgmpfabW.PrintWords Go.Proofs.YtfblmfefcgmpfabW.PrintLast Go.Proofs.YtfblmfefcgmpfabW.PrintMore Go.Proofs.Ytfblmfefcgmpfab.X
attribute [local go_sem] max2_int min2_int max_two min_two max_three min_three max_four min_four   -- for this text's walks alone
set_option linter.unusedVariables false
set_option linter.unusedSimpArgs false

attribute [local go_sem high] eqA68
/-! ### tarnlaw28_NeedParts: function 6 -/
mutual
def tarnlaw28_NeedParts.j0 : Nat → Int → List (S68) → Bool → Int → Int → Int → ByteArray → Bool → Option (Bool)
  | 0, _, _, _, _, _, _, _, _ => none
  | k + 1, x7, x9, x30, x164000, x164001, x164002, x164003, x164004 => if x30 = true then ((tarnlaw28_awake.f k).bind fun t168 => (if t168 = true then (some ((x9.length : Int) == 0)) else (some false))) else ((need_Size.f x164000 x164001 x164002 x164003 x164004).bind fun t169 => (if (wrap64 ((x9.length : Int) * 32)) = t169 then (tarnlaw28_NeedParts.l0 k x7 x9 0 x164000 x164001 x164002 x164003 x164004) else (some false)))
def tarnlaw28_NeedParts.l0 : Nat → Int → List (S68) → Int → Int → Int → Int → ByteArray → Bool → Option (Bool)
  | 0, _, _, _, _, _, _, _, _ => none
  | k + 1, x7, x9, x10, x164000, x164001, x164002, x164003, x164004 => if x10 < (x9.length : Int) then (if x164000 = 2 then ((tarnref08_Zeros.f).bind fun t172 => (tarnlaw28_NeedParts.j2 k x7 x9 x10 x164000 x164001 x164002 x164003 x164004 (wrap64 ((wrap64 (Int.tdiv x164001 32)) + x10)) (x164000 != 0) t172)) else (tarnlaw28_NeedParts.j2 k x7 x9 x10 x164000 x164001 x164002 x164003 x164004 (wrap64 ((wrap64 (Int.tdiv x164001 32)) + x10)) (x164000 != 0) (⟨#[]⟩ : ByteArray))) else ((tarnlaw28_awake.f k).bind fun t170 => (some t170))
def tarnlaw28_NeedParts.j2 : Nat → Int → List (S68) → Int → Int → Int → Int → ByteArray → Bool → Int → Bool → ByteArray → Option (Bool)
  | 0, _, _, _, _, _, _, _, _, _, _, _ => none
  | k + 1, x7, x9, x10, x164000, x164001, x164002, x164003, x164004, x172000, x172001, x172002 => if x164000 = 1 then (if 0 ≤ (wrap64 (32 * x10)) then (if (wrap64 (32 * x10)) ≤ (wrap64 ((wrap64 (32 * x10)) + 32)) then (if (wrap64 ((wrap64 (32 * x10)) + 32)) ≤ (x164003.size : Int) then (if 0 ≤ x10 then (if x10 < (x9.length : Int) then (if (!(((rd_T68 x9 x10).f0) == x172000) || (!(((rd_T68 x9 x10).f1) == x172001) || (!((((rd_T68 x9 x10).f2).toList) == ((x164003.extract ((wrap64 (32 * x10)) : Int).toNat ((wrap64 ((wrap64 (32 * x10)) + 32)) : Int).toNat).toList))))) = true then (some false) else (if ((rd_T68 x9 x10).f0) ≥ x7 then (some false) else (tarnlaw28_NeedParts.l0 k x7 x9 (wrap64 (x10 + 1)) x164000 x164001 x164002 x164003 x164004))) else (none)) else (none)) else (none)) else (none)) else (none)) else (if 0 ≤ x10 then (if x10 < (x9.length : Int) then (if (!(((rd_T68 x9 x10).f0) == x172000) || (!(((rd_T68 x9 x10).f1) == x172001) || (!((((rd_T68 x9 x10).f2).toList) == x172002.toList)))) = true then (some false) else (if ((rd_T68 x9 x10).f0) ≥ x7 then (some false) else (tarnlaw28_NeedParts.l0 k x7 x9 (wrap64 (x10 + 1)) x164000 x164001 x164002 x164003 x164004))) else (none)) else (none))
end
def tarnlaw28_NeedParts.f (k : Nat) (a0_0 : Int) (a0_1 : Int) (a0_2 : Int) (a0_3 : ByteArray) (a0_4 : Bool) (a1 : Int) (a2 : Int) : Option (Bool) := (tarnlaw28_Odd.f k a0_0 a0_1 a0_2 a0_3 a0_4 (wrap64 ((Go.bits .and .i64 a1 63) + 1)) a2).bind fun bt158 => ((need_Parts.f k bt158.1 bt158.2.1 bt158.2.2.1 bt158.2.2.2.1 bt158.2.2.2.2 (wrap64 ((Go.bits .and .i64 a1 63) + 1))).bind fun t164 => ((need_May.f k bt158.1 bt158.2.1 bt158.2.2.1 bt158.2.2.2.1 bt158.2.2.2.2 (wrap64 ((Go.bits .and .i64 a1 63) + 1))).bind fun t167 => (if t167 = 0 then (tarnlaw28_NeedParts.j0 k (wrap64 ((Go.bits .and .i64 a1 63) + 1)) t164 (bt158.1 == 3) bt158.1 bt158.2.1 bt158.2.2.1 bt158.2.2.2.1 bt158.2.2.2.2) else (tarnlaw28_NeedParts.j0 k (wrap64 ((Go.bits .and .i64 a1 63) + 1)) t164 true bt158.1 bt158.2.1 bt158.2.2.1 bt158.2.2.2.1 bt158.2.2.2.2))))
theorem tarnlaw28_NeedParts.mono_l : ∀ k, (∀ y0 y1 y2 y3 y4 y5 y6 y7, LeO (tarnlaw28_NeedParts.j0 k y0 y1 y2 y3 y4 y5 y6 y7) (tarnlaw28_NeedParts.j0 (k + 1) y0 y1 y2 y3 y4 y5 y6 y7)) ∧ (∀ y0 y1 y2 y3 y4 y5 y6 y7, LeO (tarnlaw28_NeedParts.l0 k y0 y1 y2 y3 y4 y5 y6 y7) (tarnlaw28_NeedParts.l0 (k + 1) y0 y1 y2 y3 y4 y5 y6 y7)) ∧ (∀ y0 y1 y2 y3 y4 y5 y6 y7 y8 y9 y10, LeO (tarnlaw28_NeedParts.j2 k y0 y1 y2 y3 y4 y5 y6 y7 y8 y9 y10) (tarnlaw28_NeedParts.j2 (k + 1) y0 y1 y2 y3 y4 y5 y6 y7 y8 y9 y10))
  | 0 => ⟨fun _ _ _ _ _ _ _ _ r h => by simp [tarnlaw28_NeedParts.j0] at h, fun _ _ _ _ _ _ _ _ r h => by simp [tarnlaw28_NeedParts.l0] at h, fun _ _ _ _ _ _ _ _ _ _ _ r h => by simp [tarnlaw28_NeedParts.j2] at h⟩
  | k + 1 => by
    obtain ⟨ih0, ih1, ih2⟩ := tarnlaw28_NeedParts.mono_l k
    refine ⟨?_, ?_, ?_⟩
    · intro y0 y1 y2 y3 y4 y5 y6 y7
      unfold tarnlaw28_NeedParts.j0
      repeat' first
      | (with_reducible exact ih0 _ _ _ _ _ _ _ _)
      | (with_reducible exact ih1 _ _ _ _ _ _ _ _)
      | (with_reducible exact ih2 _ _ _ _ _ _ _ _ _ _ _)
      | (with_reducible exact need_May.mono _ _ _ _ _ _ _)
      | (with_reducible exact need_Parts.mono _ _ _ _ _ _ _)
      | (with_reducible exact tarnlaw28_Odd.mono _ _ _ _ _ _ _ _)
      | (with_reducible exact tarnlaw28_awake.mono _)
      | (with_reducible exact LeO.refl _)
      | (with_reducible exact LeO.none _)
      | (with_reducible refine LeO.ite ?_ ?_)
      | (with_reducible refine LeO.bind ?_ (fun _ => ?_))
      | exact ih0 _ _ _ _ _ _ _ _
      | exact ih1 _ _ _ _ _ _ _ _
      | exact ih2 _ _ _ _ _ _ _ _ _ _ _
      | exact need_May.mono _ _ _ _ _ _ _
      | exact need_Parts.mono _ _ _ _ _ _ _
      | exact tarnlaw28_Odd.mono _ _ _ _ _ _ _ _
      | exact tarnlaw28_awake.mono _
      | exact LeO.none _
      | refine LeO.ite ?_ ?_
      | refine LeO.bind ?_ (fun _ => ?_)
    · intro y0 y1 y2 y3 y4 y5 y6 y7
      unfold tarnlaw28_NeedParts.l0
      repeat' first
      | (with_reducible exact ih0 _ _ _ _ _ _ _ _)
      | (with_reducible exact ih1 _ _ _ _ _ _ _ _)
      | (with_reducible exact ih2 _ _ _ _ _ _ _ _ _ _ _)
      | (with_reducible exact need_May.mono _ _ _ _ _ _ _)
      | (with_reducible exact need_Parts.mono _ _ _ _ _ _ _)
      | (with_reducible exact tarnlaw28_Odd.mono _ _ _ _ _ _ _ _)
      | (with_reducible exact tarnlaw28_awake.mono _)
      | (with_reducible exact LeO.refl _)
      | (with_reducible exact LeO.none _)
      | (with_reducible refine LeO.ite ?_ ?_)
      | (with_reducible refine LeO.bind ?_ (fun _ => ?_))
      | exact ih0 _ _ _ _ _ _ _ _
      | exact ih1 _ _ _ _ _ _ _ _
      | exact ih2 _ _ _ _ _ _ _ _ _ _ _
      | exact need_May.mono _ _ _ _ _ _ _
      | exact need_Parts.mono _ _ _ _ _ _ _
      | exact tarnlaw28_Odd.mono _ _ _ _ _ _ _ _
      | exact tarnlaw28_awake.mono _
      | exact LeO.none _
      | refine LeO.ite ?_ ?_
      | refine LeO.bind ?_ (fun _ => ?_)
    · intro y0 y1 y2 y3 y4 y5 y6 y7 y8 y9 y10
      unfold tarnlaw28_NeedParts.j2
      repeat' first
      | (with_reducible exact ih0 _ _ _ _ _ _ _ _)
      | (with_reducible exact ih1 _ _ _ _ _ _ _ _)
      | (with_reducible exact ih2 _ _ _ _ _ _ _ _ _ _ _)
      | (with_reducible exact need_May.mono _ _ _ _ _ _ _)
      | (with_reducible exact need_Parts.mono _ _ _ _ _ _ _)
      | (with_reducible exact tarnlaw28_Odd.mono _ _ _ _ _ _ _ _)
      | (with_reducible exact tarnlaw28_awake.mono _)
      | (with_reducible exact LeO.refl _)
      | (with_reducible exact LeO.none _)
      | (with_reducible refine LeO.ite ?_ ?_)
      | (with_reducible refine LeO.bind ?_ (fun _ => ?_))
      | exact ih0 _ _ _ _ _ _ _ _
      | exact ih1 _ _ _ _ _ _ _ _
      | exact ih2 _ _ _ _ _ _ _ _ _ _ _
      | exact need_May.mono _ _ _ _ _ _ _
      | exact need_Parts.mono _ _ _ _ _ _ _
      | exact tarnlaw28_Odd.mono _ _ _ _ _ _ _ _
      | exact tarnlaw28_awake.mono _
      | exact LeO.none _
      | refine LeO.ite ?_ ?_
      | refine LeO.bind ?_ (fun _ => ?_)
theorem tarnlaw28_NeedParts.mono : ∀ a0 a1 a2 a3 a4 a5 a6 k, LeO (tarnlaw28_NeedParts.f k a0 a1 a2 a3 a4 a5 a6) (tarnlaw28_NeedParts.f (k + 1) a0 a1 a2 a3 a4 a5 a6) := by
  intro a0 a1 a2 a3 a4 a5 a6 k
  obtain ⟨ih0, ih1, ih2⟩ := tarnlaw28_NeedParts.mono_l k
  unfold tarnlaw28_NeedParts.f
  repeat' first
      | (with_reducible exact ih0 _ _ _ _ _ _ _ _)
      | (with_reducible exact ih1 _ _ _ _ _ _ _ _)
      | (with_reducible exact ih2 _ _ _ _ _ _ _ _ _ _ _)
      | (with_reducible exact need_May.mono _ _ _ _ _ _ _)
      | (with_reducible exact need_Parts.mono _ _ _ _ _ _ _)
      | (with_reducible exact tarnlaw28_Odd.mono _ _ _ _ _ _ _ _)
      | (with_reducible exact tarnlaw28_awake.mono _)
      | (with_reducible exact LeO.refl _)
      | (with_reducible exact LeO.none _)
      | (with_reducible refine LeO.ite ?_ ?_)
      | (with_reducible refine LeO.bind ?_ (fun _ => ?_))
      | exact ih0 _ _ _ _ _ _ _ _
      | exact ih1 _ _ _ _ _ _ _ _
      | exact ih2 _ _ _ _ _ _ _ _ _ _ _
      | exact need_May.mono _ _ _ _ _ _ _
      | exact need_Parts.mono _ _ _ _ _ _ _
      | exact tarnlaw28_Odd.mono _ _ _ _ _ _ _ _
      | exact tarnlaw28_awake.mono _
      | exact LeO.none _
      | refine LeO.ite ?_ ?_
      | refine LeO.bind ?_ (fun _ => ?_)
set_option maxHeartbeats 8000000 in
set_option maxRecDepth 100000 in
theorem tarnlaw28_NeedParts.calls (k : Nat) (a0_0 : Int) (a0_1 : Int) (a0_2 : Int) (a0_3 : ByteArray) (a0_4 : Bool) (a1 : Int) (a2 : Int) (r : Bool) (w : World) (h : tarnlaw28_NeedParts.f k a0_0 a0_1 a0_2 a0_3 a0_4 a1 a2 = some r) :
    Calls Try.prog 6 #[.agg #[.int .i64 a0_0, .int .i64 a0_1, .int .i64 a0_2, .string a0_3, .bool a0_4], .int .i64 a1, .int .i64 a2] w fun e w' => e = .returned (.bool r) ∧ Below w.heap.size w w' := by
  have hu59 := Try.underlying59
  have hu68 := Try.underlying68
  have HB := Aside0.mk (Below.refl w.heap.size w)
  have H : ((tarnlaw28_Odd.f k a0_0 a0_1 a0_2 a0_3 a0_4 (wrap64 ((Go.bits .and .i64 a1 63) + 1)) a2).bind fun bt158 => ((need_Parts.f k bt158.1 bt158.2.1 bt158.2.2.1 bt158.2.2.2.1 bt158.2.2.2.2 (wrap64 ((Go.bits .and .i64 a1 63) + 1))).bind fun t164 => ((need_May.f k bt158.1 bt158.2.1 bt158.2.2.1 bt158.2.2.2.1 bt158.2.2.2.2 (wrap64 ((Go.bits .and .i64 a1 63) + 1))).bind fun t167 => (if t167 = 0 then (tarnlaw28_NeedParts.j0 k (wrap64 ((Go.bits .and .i64 a1 63) + 1)) t164 (bt158.1 == 3) bt158.1 bt158.2.1 bt158.2.2.1 bt158.2.2.2.1 bt158.2.2.2.2) else (tarnlaw28_NeedParts.j0 k (wrap64 ((Go.bits .and .i64 a1 63) + 1)) t164 true bt158.1 bt158.2.1 bt158.2.2.1 bt158.2.2.2.1 bt158.2.2.2.2))))) = some r := h
  clear h
  replace H := Option.bind_eq_some_iff.mp H
  obtain ⟨⟨t158, t159, t160, t161, t162⟩, A40, H⟩ := H
  replace H : ((need_Parts.f k t158 t159 t160 t161 t162 (wrap64 ((Go.bits .and .i64 a1 63) + 1))).bind fun t164 => ((need_May.f k t158 t159 t160 t161 t162 (wrap64 ((Go.bits .and .i64 a1 63) + 1))).bind fun t167 => (if t167 = 0 then (tarnlaw28_NeedParts.j0 k (wrap64 ((Go.bits .and .i64 a1 63) + 1)) t164 (t158 == 3) t158 t159 t160 t161 t162) else (tarnlaw28_NeedParts.j0 k (wrap64 ((Go.bits .and .i64 a1 63) + 1)) t164 true t158 t159 t160 t161 t162)))) = some r := H
  have A4 := Aside0.mk A40
  clear A40
  replace H := Option.bind_eq_some_iff.mp H
  obtain ⟨t164, A50, H⟩ := H
  replace H : ((need_May.f k t158 t159 t160 t161 t162 (wrap64 ((Go.bits .and .i64 a1 63) + 1))).bind fun t167 => (if t167 = 0 then (tarnlaw28_NeedParts.j0 k (wrap64 ((Go.bits .and .i64 a1 63) + 1)) t164 (t158 == 3) t158 t159 t160 t161 t162) else (tarnlaw28_NeedParts.j0 k (wrap64 ((Go.bits .and .i64 a1 63) + 1)) t164 true t158 t159 t160 t161 t162))) = some r := H
  have A5 := Aside0.mk A50
  clear A50
  have HC6 := Aside0.mk H
  clear H
  go_enter Try.func6, Try.ntmps6
  go_upto_region 4 with (first | ((with_reducible refine gate_dst (N := 3) rfl ?_); (try (refine gate_guard (by rfl) ?_; dsimp only)); refine box_event ?hg (N := 3) ?hd (cs := #[.int .i64 a0_0, .int .i64 a0_1, .int .i64 a0_2, .string a0_3, .bool a0_4]) (t := 59) ?hr ?_; (case hd => rfl); (case hg => rfl); (case hr => first | (go_simp; done) | (go_simp; rfl)); intro gb157 hg w7 hbox hb; have n0_ := Aside0.mk (below_step (by repeat (first | (with_reducible first | exact HB.out | apply below_alloc | apply pw_below_drewN | apply below_drew1) | exact HB.out)) hb); have n1_ := Aside0.mk (hbox); have n2_ := Aside0.mk ((by rw [hg]; exact (below_size (by repeat (first | (with_reducible first | exact HB.out | apply below_alloc | apply pw_below_drewN | apply below_drew1) | exact HB.out))) : w.heap.size ≤ gb157)); have n3_ := Aside0.mk ((by rw [hg]; exact (below_size (by repeat (first | (with_reducible first | exact HB.out | apply below_alloc | apply pw_below_drewN | apply below_drew1) | exact HB.out))) : w.heap.size ≤ gb157)); clear HB; have HB := n0_; have BK157 := n1_; have GW157 := n2_; have GE157 := n3_; clear n0_ n1_ n2_ n3_; clear hb hbox hg; have hcz8_0 : w7.cell? ⟨gb157, 0, none⟩ = some (.int .i64 a0_0) := (blk_cell BK157.out 0).trans rfl; have hcz8_1 : w7.cell? ⟨gb157, 1, none⟩ = some (.int .i64 a0_1) := (blk_cell BK157.out 1).trans rfl; have hcz8_2 : w7.cell? ⟨gb157, 2, none⟩ = some (.int .i64 a0_2) := (blk_cell BK157.out 2).trans rfl; have hcz8_3 : w7.cell? ⟨gb157, 3, none⟩ = some (.string a0_3) := (blk_cell BK157.out 3).trans rfl; have hcz8_4 : w7.cell? ⟨gb157, 4, none⟩ = some (.bool a0_4) := (blk_cell BK157.out 4).trans rfl; have hfz8_0 := blk_frozen BK157.out 0; have hfz8_1 := blk_frozen BK157.out 1; have hfz8_2 := blk_frozen BK157.out 2; have hfz8_3 := blk_frozen BK157.out 3; have hfz8_4 := blk_frozen BK157.out 4) | (go_at_call 27; (with_reducible refine (tarnlaw28_Odd.calls k a0_0 a0_1 a0_2 a0_3 a0_4 (wrap64 ((Go.bits .and .i64 a1 63) + 1)) a2 t158 t159 t160 t161 t162 _ A4.out).mono ?_); rintro e w9 ⟨rfl, hb⟩; have n0_ := Aside0.mk (blk_below (g := gb157) (o := .cells #[.int .i64 a0_0, .int .i64 a0_1, .int .i64 a0_2, .string a0_3, .bool a0_4] 59 (0, 0)) (by (with_reducible repeat (first | refine blk_drewN ?_ _ | refine blk_drew ?_ | refine blk_alloc ?_ _)); exact BK157.out) hb); have n1_ := Aside0.mk (below_step (by repeat (first | (with_reducible first | exact HB.out | apply below_alloc | apply pw_below_drewN | apply below_drew1 | refine below_set ?_ GE157.out) | exact HB.out)) hb); clear BK157; clear HB; have BK157 := n0_; have HB := n1_; clear n0_ n1_; (try clear hb); (try clear hb2); (try clear hk); (try clear hi)) | ((with_reducible refine gate_dst (N := 8) rfl ?_); (try (refine gate_guard (by rfl) ?_; dsimp only)); refine box_event ?hg (N := 8) ?hd (cs := #[.int .i64 0, .int .i64 0, .int .i64 0, .string (⟨#[]⟩ : ByteArray), .bool false]) (t := 59) ?hr ?_; (case hd => rfl); (case hg => rfl); (case hr => first | (go_simp; done) | (go_simp; rfl)); intro gb163 hg w10 hbox hb; have n0_ := Aside0.mk (blk_below (g := gb157) (o := .cells #[.int .i64 a0_0, .int .i64 a0_1, .int .i64 a0_2, .string a0_3, .bool a0_4] 59 (0, 0)) (by (with_reducible repeat (first | refine blk_drewN ?_ _ | refine blk_drew ?_ | refine blk_alloc ?_ _)); exact BK157.out) hb); have n1_ := Aside0.mk (below_step (by repeat (first | (with_reducible first | exact HB.out | apply below_alloc | apply pw_below_drewN | apply below_drew1 | refine below_set ?_ GE157.out) | exact HB.out)) hb); have n2_ := Aside0.mk (hbox); have n3_ := Aside0.mk ((by rw [hg]; exact (below_size (by repeat (first | (with_reducible first | exact HB.out | apply below_alloc | apply pw_below_drewN | apply below_drew1 | refine below_set ?_ GE157.out) | exact HB.out))) : w.heap.size ≤ gb163)); have n4_ := Aside0.mk ((by rw [hg]; exact (below_size (by repeat (first | (with_reducible first | exact HB.out | apply below_alloc | apply pw_below_drewN | apply below_drew1 | refine below_set ?_ GE157.out) | exact HB.out))) : w.heap.size ≤ gb163)); have n5_ := Aside0.mk ((by rw [hg]; exact Nat.ne_of_lt (blk_lt (g := gb157) (o := .cells #[.int .i64 a0_0, .int .i64 a0_1, .int .i64 a0_2, .string a0_3, .bool a0_4] 59 (0, 0)) (by (with_reducible repeat (first | refine blk_drewN ?_ _ | refine blk_drew ?_ | refine blk_alloc ?_ _)); exact BK157.out)) : gb157 ≠ gb163)); have n6_ := Aside0.mk ((by rw [hg]; exact Nat.ne_of_gt (blk_lt (g := gb157) (o := .cells #[.int .i64 a0_0, .int .i64 a0_1, .int .i64 a0_2, .string a0_3, .bool a0_4] 59 (0, 0)) (by (with_reducible repeat (first | refine blk_drewN ?_ _ | refine blk_drew ?_ | refine blk_alloc ?_ _)); exact BK157.out)) : gb163 ≠ gb157)); clear BK157; clear HB; have BK157 := n0_; have HB := n1_; have BK163 := n2_; have GW163 := n3_; have GE163 := n4_; have NB157_163 := n5_; have NB163_157 := n6_; clear n0_ n1_ n2_ n3_ n4_ n5_ n6_; clear hb hbox hg; have hnb11 := NB163_157.out; have hnc11 := NB157_163.out; have hcz12_0 : w10.cell? ⟨gb163, 0, none⟩ = some (.int .i64 0) := (blk_cell BK163.out 0).trans rfl; have hcz12_1 : w10.cell? ⟨gb163, 1, none⟩ = some (.int .i64 0) := (blk_cell BK163.out 1).trans rfl; have hcz12_2 : w10.cell? ⟨gb163, 2, none⟩ = some (.int .i64 0) := (blk_cell BK163.out 2).trans rfl; have hcz12_3 : w10.cell? ⟨gb163, 3, none⟩ = some (.string (⟨#[]⟩ : ByteArray)) := (blk_cell BK163.out 3).trans rfl; have hcz12_4 : w10.cell? ⟨gb163, 4, none⟩ = some (.bool false) := (blk_cell BK163.out 4).trans rfl; have hfz12_0 := blk_frozen BK163.out 0; have hfz12_1 := blk_frozen BK163.out 1; have hfz12_2 := blk_frozen BK163.out 2; have hfz12_3 := blk_frozen BK163.out 3; have hfz12_4 := blk_frozen BK163.out 4) | (go_at_call 31; (with_reducible refine (need_Parts.calls k t158 t159 t160 t161 t162 (wrap64 ((Go.bits .and .i64 a1 63) + 1)) t164 _ A5.out).mono ?_); rintro e w13 ⟨v165, rfl, ho0, hb⟩; have n0_ := Aside0.mk (Kd.R_lower ho0 (below_size (by repeat (first | (with_reducible first | exact HB.out | apply below_alloc | apply pw_below_drewN | apply below_drew1 | refine below_set ?_ GE157.out | refine below_set ?_ GE163.out) | exact HB.out)))); have n1_ := Aside0.mk (blk_below (g := gb157) (o := .cells #[.int .i64 a0_0, .int .i64 a0_1, .int .i64 a0_2, .string a0_3, .bool a0_4] 59 (0, 0)) (by (with_reducible repeat (first | refine blk_drewN ?_ _ | refine blk_drew ?_ | refine blk_alloc ?_ _)); refine blk_far ?_ NB157_163.out _; (with_reducible repeat (first | refine blk_drewN ?_ _ | refine blk_drew ?_ | refine blk_alloc ?_ _)); refine blk_far ?_ NB157_163.out _; (with_reducible repeat (first | refine blk_drewN ?_ _ | refine blk_drew ?_ | refine blk_alloc ?_ _)); refine blk_far ?_ NB157_163.out _; (with_reducible repeat (first | refine blk_drewN ?_ _ | refine blk_drew ?_ | refine blk_alloc ?_ _)); refine blk_far ?_ NB157_163.out _; (with_reducible repeat (first | refine blk_drewN ?_ _ | refine blk_drew ?_ | refine blk_alloc ?_ _)); refine blk_far ?_ NB157_163.out _; (with_reducible repeat (first | refine blk_drewN ?_ _ | refine blk_drew ?_ | refine blk_alloc ?_ _)); exact BK157.out) hb); have n2_ := Aside0.mk (blk_below (g := gb163) (o := .cells #[.int .i64 t158, .int .i64 t159, .int .i64 t160, .string t161, .bool t162] 59 (0, 0)) (by (with_reducible repeat (first | refine blk_drewN ?_ _ | refine blk_drew ?_ | refine blk_alloc ?_ _)); refine blk_put (cs := #[.int .i64 t158, .int .i64 t159, .int .i64 t160, .string t161, .bool false]) ?_ 4 _ rfl; (with_reducible repeat (first | refine blk_drewN ?_ _ | refine blk_drew ?_ | refine blk_alloc ?_ _)); refine blk_put (cs := #[.int .i64 t158, .int .i64 t159, .int .i64 t160, .string (⟨#[]⟩ : ByteArray), .bool false]) ?_ 3 _ rfl; (with_reducible repeat (first | refine blk_drewN ?_ _ | refine blk_drew ?_ | refine blk_alloc ?_ _)); refine blk_put (cs := #[.int .i64 t158, .int .i64 t159, .int .i64 0, .string (⟨#[]⟩ : ByteArray), .bool false]) ?_ 2 _ rfl; (with_reducible repeat (first | refine blk_drewN ?_ _ | refine blk_drew ?_ | refine blk_alloc ?_ _)); refine blk_put (cs := #[.int .i64 t158, .int .i64 0, .int .i64 0, .string (⟨#[]⟩ : ByteArray), .bool false]) ?_ 1 _ rfl; (with_reducible repeat (first | refine blk_drewN ?_ _ | refine blk_drew ?_ | refine blk_alloc ?_ _)); refine blk_put (cs := #[.int .i64 0, .int .i64 0, .int .i64 0, .string (⟨#[]⟩ : ByteArray), .bool false]) ?_ 0 _ rfl; (with_reducible repeat (first | refine blk_drewN ?_ _ | refine blk_drew ?_ | refine blk_alloc ?_ _)); exact BK163.out) hb); have n3_ := Aside0.mk (below_step (by repeat (first | (with_reducible first | exact HB.out | apply below_alloc | apply pw_below_drewN | apply below_drew1 | refine below_set ?_ GE157.out | refine below_set ?_ GE163.out) | exact HB.out)) hb); clear BK157; clear BK163; clear HB; have HO166 := n0_; have BK157 := n1_; have BK163 := n2_; have HB := n3_; clear n0_ n1_ n2_ n3_; (try clear hb); (try clear hb2); (try clear hk); (try clear hi); (try clear ho0)))
  repeat (go_quiet (first | ((with_reducible refine gate_dst (N := 3) rfl ?_); (try (refine gate_guard (by rfl) ?_; dsimp only)); refine box_event ?hg (N := 3) ?hd (cs := #[.int .i64 a0_0, .int .i64 a0_1, .int .i64 a0_2, .string a0_3, .bool a0_4]) (t := 59) ?hr ?_; (case hd => rfl); (case hg => rfl); (case hr => first | (go_simp; done) | (go_simp; rfl)); intro gb157 hg w7 hbox hb; have n0_ := Aside0.mk (below_step (by repeat (first | (with_reducible first | exact HB.out | apply below_alloc | apply pw_below_drewN | apply below_drew1) | exact HB.out)) hb); have n1_ := Aside0.mk (hbox); have n2_ := Aside0.mk ((by rw [hg]; exact (below_size (by repeat (first | (with_reducible first | exact HB.out | apply below_alloc | apply pw_below_drewN | apply below_drew1) | exact HB.out))) : w.heap.size ≤ gb157)); have n3_ := Aside0.mk ((by rw [hg]; exact (below_size (by repeat (first | (with_reducible first | exact HB.out | apply below_alloc | apply pw_below_drewN | apply below_drew1) | exact HB.out))) : w.heap.size ≤ gb157)); clear HB; have HB := n0_; have BK157 := n1_; have GW157 := n2_; have GE157 := n3_; clear n0_ n1_ n2_ n3_; clear hb hbox hg; have hcz8_0 : w7.cell? ⟨gb157, 0, none⟩ = some (.int .i64 a0_0) := (blk_cell BK157.out 0).trans rfl; have hcz8_1 : w7.cell? ⟨gb157, 1, none⟩ = some (.int .i64 a0_1) := (blk_cell BK157.out 1).trans rfl; have hcz8_2 : w7.cell? ⟨gb157, 2, none⟩ = some (.int .i64 a0_2) := (blk_cell BK157.out 2).trans rfl; have hcz8_3 : w7.cell? ⟨gb157, 3, none⟩ = some (.string a0_3) := (blk_cell BK157.out 3).trans rfl; have hcz8_4 : w7.cell? ⟨gb157, 4, none⟩ = some (.bool a0_4) := (blk_cell BK157.out 4).trans rfl; have hfz8_0 := blk_frozen BK157.out 0; have hfz8_1 := blk_frozen BK157.out 1; have hfz8_2 := blk_frozen BK157.out 2; have hfz8_3 := blk_frozen BK157.out 3; have hfz8_4 := blk_frozen BK157.out 4) | (go_at_call 27; (with_reducible refine (tarnlaw28_Odd.calls k a0_0 a0_1 a0_2 a0_3 a0_4 (wrap64 ((Go.bits .and .i64 a1 63) + 1)) a2 t158 t159 t160 t161 t162 _ A4.out).mono ?_); rintro e w9 ⟨rfl, hb⟩; have n0_ := Aside0.mk (blk_below (g := gb157) (o := .cells #[.int .i64 a0_0, .int .i64 a0_1, .int .i64 a0_2, .string a0_3, .bool a0_4] 59 (0, 0)) (by (with_reducible repeat (first | refine blk_drewN ?_ _ | refine blk_drew ?_ | refine blk_alloc ?_ _)); exact BK157.out) hb); have n1_ := Aside0.mk (below_step (by repeat (first | (with_reducible first | exact HB.out | apply below_alloc | apply pw_below_drewN | apply below_drew1 | refine below_set ?_ GE157.out) | exact HB.out)) hb); clear BK157; clear HB; have BK157 := n0_; have HB := n1_; clear n0_ n1_; (try clear hb); (try clear hb2); (try clear hk); (try clear hi)) | ((with_reducible refine gate_dst (N := 8) rfl ?_); (try (refine gate_guard (by rfl) ?_; dsimp only)); refine box_event ?hg (N := 8) ?hd (cs := #[.int .i64 0, .int .i64 0, .int .i64 0, .string (⟨#[]⟩ : ByteArray), .bool false]) (t := 59) ?hr ?_; (case hd => rfl); (case hg => rfl); (case hr => first | (go_simp; done) | (go_simp; rfl)); intro gb163 hg w10 hbox hb; have n0_ := Aside0.mk (blk_below (g := gb157) (o := .cells #[.int .i64 a0_0, .int .i64 a0_1, .int .i64 a0_2, .string a0_3, .bool a0_4] 59 (0, 0)) (by (with_reducible repeat (first | refine blk_drewN ?_ _ | refine blk_drew ?_ | refine blk_alloc ?_ _)); exact BK157.out) hb); have n1_ := Aside0.mk (below_step (by repeat (first | (with_reducible first | exact HB.out | apply below_alloc | apply pw_below_drewN | apply below_drew1 | refine below_set ?_ GE157.out) | exact HB.out)) hb); have n2_ := Aside0.mk (hbox); have n3_ := Aside0.mk ((by rw [hg]; exact (below_size (by repeat (first | (with_reducible first | exact HB.out | apply below_alloc | apply pw_below_drewN | apply below_drew1 | refine below_set ?_ GE157.out) | exact HB.out))) : w.heap.size ≤ gb163)); have n4_ := Aside0.mk ((by rw [hg]; exact (below_size (by repeat (first | (with_reducible first | exact HB.out | apply below_alloc | apply pw_below_drewN | apply below_drew1 | refine below_set ?_ GE157.out) | exact HB.out))) : w.heap.size ≤ gb163)); have n5_ := Aside0.mk ((by rw [hg]; exact Nat.ne_of_lt (blk_lt (g := gb157) (o := .cells #[.int .i64 a0_0, .int .i64 a0_1, .int .i64 a0_2, .string a0_3, .bool a0_4] 59 (0, 0)) (by (with_reducible repeat (first | refine blk_drewN ?_ _ | refine blk_drew ?_ | refine blk_alloc ?_ _)); exact BK157.out)) : gb157 ≠ gb163)); have n6_ := Aside0.mk ((by rw [hg]; exact Nat.ne_of_gt (blk_lt (g := gb157) (o := .cells #[.int .i64 a0_0, .int .i64 a0_1, .int .i64 a0_2, .string a0_3, .bool a0_4] 59 (0, 0)) (by (with_reducible repeat (first | refine blk_drewN ?_ _ | refine blk_drew ?_ | refine blk_alloc ?_ _)); exact BK157.out)) : gb163 ≠ gb157)); clear BK157; clear HB; have BK157 := n0_; have HB := n1_; have BK163 := n2_; have GW163 := n3_; have GE163 := n4_; have NB157_163 := n5_; have NB163_157 := n6_; clear n0_ n1_ n2_ n3_ n4_ n5_ n6_; clear hb hbox hg; have hnb11 := NB163_157.out; have hnc11 := NB157_163.out; have hcz12_0 : w10.cell? ⟨gb163, 0, none⟩ = some (.int .i64 0) := (blk_cell BK163.out 0).trans rfl; have hcz12_1 : w10.cell? ⟨gb163, 1, none⟩ = some (.int .i64 0) := (blk_cell BK163.out 1).trans rfl; have hcz12_2 : w10.cell? ⟨gb163, 2, none⟩ = some (.int .i64 0) := (blk_cell BK163.out 2).trans rfl; have hcz12_3 : w10.cell? ⟨gb163, 3, none⟩ = some (.string (⟨#[]⟩ : ByteArray)) := (blk_cell BK163.out 3).trans rfl; have hcz12_4 : w10.cell? ⟨gb163, 4, none⟩ = some (.bool false) := (blk_cell BK163.out 4).trans rfl; have hfz12_0 := blk_frozen BK163.out 0; have hfz12_1 := blk_frozen BK163.out 1; have hfz12_2 := blk_frozen BK163.out 2; have hfz12_3 := blk_frozen BK163.out 3; have hfz12_4 := blk_frozen BK163.out 4) | (go_at_call 31; (with_reducible refine (need_Parts.calls k t158 t159 t160 t161 t162 (wrap64 ((Go.bits .and .i64 a1 63) + 1)) t164 _ A5.out).mono ?_); rintro e w13 ⟨v165, rfl, ho0, hb⟩; have n0_ := Aside0.mk (Kd.R_lower ho0 (below_size (by repeat (first | (with_reducible first | exact HB.out | apply below_alloc | apply pw_below_drewN | apply below_drew1 | refine below_set ?_ GE157.out | refine below_set ?_ GE163.out) | exact HB.out)))); have n1_ := Aside0.mk (blk_below (g := gb157) (o := .cells #[.int .i64 a0_0, .int .i64 a0_1, .int .i64 a0_2, .string a0_3, .bool a0_4] 59 (0, 0)) (by (with_reducible repeat (first | refine blk_drewN ?_ _ | refine blk_drew ?_ | refine blk_alloc ?_ _)); refine blk_far ?_ NB157_163.out _; (with_reducible repeat (first | refine blk_drewN ?_ _ | refine blk_drew ?_ | refine blk_alloc ?_ _)); refine blk_far ?_ NB157_163.out _; (with_reducible repeat (first | refine blk_drewN ?_ _ | refine blk_drew ?_ | refine blk_alloc ?_ _)); refine blk_far ?_ NB157_163.out _; (with_reducible repeat (first | refine blk_drewN ?_ _ | refine blk_drew ?_ | refine blk_alloc ?_ _)); refine blk_far ?_ NB157_163.out _; (with_reducible repeat (first | refine blk_drewN ?_ _ | refine blk_drew ?_ | refine blk_alloc ?_ _)); refine blk_far ?_ NB157_163.out _; (with_reducible repeat (first | refine blk_drewN ?_ _ | refine blk_drew ?_ | refine blk_alloc ?_ _)); exact BK157.out) hb); have n2_ := Aside0.mk (blk_below (g := gb163) (o := .cells #[.int .i64 t158, .int .i64 t159, .int .i64 t160, .string t161, .bool t162] 59 (0, 0)) (by (with_reducible repeat (first | refine blk_drewN ?_ _ | refine blk_drew ?_ | refine blk_alloc ?_ _)); refine blk_put (cs := #[.int .i64 t158, .int .i64 t159, .int .i64 t160, .string t161, .bool false]) ?_ 4 _ rfl; (with_reducible repeat (first | refine blk_drewN ?_ _ | refine blk_drew ?_ | refine blk_alloc ?_ _)); refine blk_put (cs := #[.int .i64 t158, .int .i64 t159, .int .i64 t160, .string (⟨#[]⟩ : ByteArray), .bool false]) ?_ 3 _ rfl; (with_reducible repeat (first | refine blk_drewN ?_ _ | refine blk_drew ?_ | refine blk_alloc ?_ _)); refine blk_put (cs := #[.int .i64 t158, .int .i64 t159, .int .i64 0, .string (⟨#[]⟩ : ByteArray), .bool false]) ?_ 2 _ rfl; (with_reducible repeat (first | refine blk_drewN ?_ _ | refine blk_drew ?_ | refine blk_alloc ?_ _)); refine blk_put (cs := #[.int .i64 t158, .int .i64 0, .int .i64 0, .string (⟨#[]⟩ : ByteArray), .bool false]) ?_ 1 _ rfl; (with_reducible repeat (first | refine blk_drewN ?_ _ | refine blk_drew ?_ | refine blk_alloc ?_ _)); refine blk_put (cs := #[.int .i64 0, .int .i64 0, .int .i64 0, .string (⟨#[]⟩ : ByteArray), .bool false]) ?_ 0 _ rfl; (with_reducible repeat (first | refine blk_drewN ?_ _ | refine blk_drew ?_ | refine blk_alloc ?_ _)); exact BK163.out) hb); have n3_ := Aside0.mk (below_step (by repeat (first | (with_reducible first | exact HB.out | apply below_alloc | apply pw_below_drewN | apply below_drew1 | refine below_set ?_ GE157.out | refine below_set ?_ GE163.out) | exact HB.out)) hb); clear BK157; clear BK163; clear HB; have HO166 := n0_; have BK157 := n1_; have BK163 := n2_; have HB := n3_; clear n0_ n1_ n2_ n3_; (try clear hb); (try clear hb2); (try clear hk); (try clear hi); (try clear ho0))); go_upto_region 4 with (first | ((with_reducible refine gate_dst (N := 3) rfl ?_); (try (refine gate_guard (by rfl) ?_; dsimp only)); refine box_event ?hg (N := 3) ?hd (cs := #[.int .i64 a0_0, .int .i64 a0_1, .int .i64 a0_2, .string a0_3, .bool a0_4]) (t := 59) ?hr ?_; (case hd => rfl); (case hg => rfl); (case hr => first | (go_simp; done) | (go_simp; rfl)); intro gb157 hg w7 hbox hb; have n0_ := Aside0.mk (below_step (by repeat (first | (with_reducible first | exact HB.out | apply below_alloc | apply pw_below_drewN | apply below_drew1) | exact HB.out)) hb); have n1_ := Aside0.mk (hbox); have n2_ := Aside0.mk ((by rw [hg]; exact (below_size (by repeat (first | (with_reducible first | exact HB.out | apply below_alloc | apply pw_below_drewN | apply below_drew1) | exact HB.out))) : w.heap.size ≤ gb157)); have n3_ := Aside0.mk ((by rw [hg]; exact (below_size (by repeat (first | (with_reducible first | exact HB.out | apply below_alloc | apply pw_below_drewN | apply below_drew1) | exact HB.out))) : w.heap.size ≤ gb157)); clear HB; have HB := n0_; have BK157 := n1_; have GW157 := n2_; have GE157 := n3_; clear n0_ n1_ n2_ n3_; clear hb hbox hg; have hcz8_0 : w7.cell? ⟨gb157, 0, none⟩ = some (.int .i64 a0_0) := (blk_cell BK157.out 0).trans rfl; have hcz8_1 : w7.cell? ⟨gb157, 1, none⟩ = some (.int .i64 a0_1) := (blk_cell BK157.out 1).trans rfl; have hcz8_2 : w7.cell? ⟨gb157, 2, none⟩ = some (.int .i64 a0_2) := (blk_cell BK157.out 2).trans rfl; have hcz8_3 : w7.cell? ⟨gb157, 3, none⟩ = some (.string a0_3) := (blk_cell BK157.out 3).trans rfl; have hcz8_4 : w7.cell? ⟨gb157, 4, none⟩ = some (.bool a0_4) := (blk_cell BK157.out 4).trans rfl; have hfz8_0 := blk_frozen BK157.out 0; have hfz8_1 := blk_frozen BK157.out 1; have hfz8_2 := blk_frozen BK157.out 2; have hfz8_3 := blk_frozen BK157.out 3; have hfz8_4 := blk_frozen BK157.out 4) | (go_at_call 27; (with_reducible refine (tarnlaw28_Odd.calls k a0_0 a0_1 a0_2 a0_3 a0_4 (wrap64 ((Go.bits .and .i64 a1 63) + 1)) a2 t158 t159 t160 t161 t162 _ A4.out).mono ?_); rintro e w9 ⟨rfl, hb⟩; have n0_ := Aside0.mk (blk_below (g := gb157) (o := .cells #[.int .i64 a0_0, .int .i64 a0_1, .int .i64 a0_2, .string a0_3, .bool a0_4] 59 (0, 0)) (by (with_reducible repeat (first | refine blk_drewN ?_ _ | refine blk_drew ?_ | refine blk_alloc ?_ _)); exact BK157.out) hb); have n1_ := Aside0.mk (below_step (by repeat (first | (with_reducible first | exact HB.out | apply below_alloc | apply pw_below_drewN | apply below_drew1 | refine below_set ?_ GE157.out) | exact HB.out)) hb); clear BK157; clear HB; have BK157 := n0_; have HB := n1_; clear n0_ n1_; (try clear hb); (try clear hb2); (try clear hk); (try clear hi)) | ((with_reducible refine gate_dst (N := 8) rfl ?_); (try (refine gate_guard (by rfl) ?_; dsimp only)); refine box_event ?hg (N := 8) ?hd (cs := #[.int .i64 0, .int .i64 0, .int .i64 0, .string (⟨#[]⟩ : ByteArray), .bool false]) (t := 59) ?hr ?_; (case hd => rfl); (case hg => rfl); (case hr => first | (go_simp; done) | (go_simp; rfl)); intro gb163 hg w10 hbox hb; have n0_ := Aside0.mk (blk_below (g := gb157) (o := .cells #[.int .i64 a0_0, .int .i64 a0_1, .int .i64 a0_2, .string a0_3, .bool a0_4] 59 (0, 0)) (by (with_reducible repeat (first | refine blk_drewN ?_ _ | refine blk_drew ?_ | refine blk_alloc ?_ _)); exact BK157.out) hb); have n1_ := Aside0.mk (below_step (by repeat (first | (with_reducible first | exact HB.out | apply below_alloc | apply pw_below_drewN | apply below_drew1 | refine below_set ?_ GE157.out) | exact HB.out)) hb); have n2_ := Aside0.mk (hbox); have n3_ := Aside0.mk ((by rw [hg]; exact (below_size (by repeat (first | (with_reducible first | exact HB.out | apply below_alloc | apply pw_below_drewN | apply below_drew1 | refine below_set ?_ GE157.out) | exact HB.out))) : w.heap.size ≤ gb163)); have n4_ := Aside0.mk ((by rw [hg]; exact (below_size (by repeat (first | (with_reducible first | exact HB.out | apply below_alloc | apply pw_below_drewN | apply below_drew1 | refine below_set ?_ GE157.out) | exact HB.out))) : w.heap.size ≤ gb163)); have n5_ := Aside0.mk ((by rw [hg]; exact Nat.ne_of_lt (blk_lt (g := gb157) (o := .cells #[.int .i64 a0_0, .int .i64 a0_1, .int .i64 a0_2, .string a0_3, .bool a0_4] 59 (0, 0)) (by (with_reducible repeat (first | refine blk_drewN ?_ _ | refine blk_drew ?_ | refine blk_alloc ?_ _)); exact BK157.out)) : gb157 ≠ gb163)); have n6_ := Aside0.mk ((by rw [hg]; exact Nat.ne_of_gt (blk_lt (g := gb157) (o := .cells #[.int .i64 a0_0, .int .i64 a0_1, .int .i64 a0_2, .string a0_3, .bool a0_4] 59 (0, 0)) (by (with_reducible repeat (first | refine blk_drewN ?_ _ | refine blk_drew ?_ | refine blk_alloc ?_ _)); exact BK157.out)) : gb163 ≠ gb157)); clear BK157; clear HB; have BK157 := n0_; have HB := n1_; have BK163 := n2_; have GW163 := n3_; have GE163 := n4_; have NB157_163 := n5_; have NB163_157 := n6_; clear n0_ n1_ n2_ n3_ n4_ n5_ n6_; clear hb hbox hg; have hnb11 := NB163_157.out; have hnc11 := NB157_163.out; have hcz12_0 : w10.cell? ⟨gb163, 0, none⟩ = some (.int .i64 0) := (blk_cell BK163.out 0).trans rfl; have hcz12_1 : w10.cell? ⟨gb163, 1, none⟩ = some (.int .i64 0) := (blk_cell BK163.out 1).trans rfl; have hcz12_2 : w10.cell? ⟨gb163, 2, none⟩ = some (.int .i64 0) := (blk_cell BK163.out 2).trans rfl; have hcz12_3 : w10.cell? ⟨gb163, 3, none⟩ = some (.string (⟨#[]⟩ : ByteArray)) := (blk_cell BK163.out 3).trans rfl; have hcz12_4 : w10.cell? ⟨gb163, 4, none⟩ = some (.bool false) := (blk_cell BK163.out 4).trans rfl; have hfz12_0 := blk_frozen BK163.out 0; have hfz12_1 := blk_frozen BK163.out 1; have hfz12_2 := blk_frozen BK163.out 2; have hfz12_3 := blk_frozen BK163.out 3; have hfz12_4 := blk_frozen BK163.out 4) | (go_at_call 31; (with_reducible refine (need_Parts.calls k t158 t159 t160 t161 t162 (wrap64 ((Go.bits .and .i64 a1 63) + 1)) t164 _ A5.out).mono ?_); rintro e w13 ⟨v165, rfl, ho0, hb⟩; have n0_ := Aside0.mk (Kd.R_lower ho0 (below_size (by repeat (first | (with_reducible first | exact HB.out | apply below_alloc | apply pw_below_drewN | apply below_drew1 | refine below_set ?_ GE157.out | refine below_set ?_ GE163.out) | exact HB.out)))); have n1_ := Aside0.mk (blk_below (g := gb157) (o := .cells #[.int .i64 a0_0, .int .i64 a0_1, .int .i64 a0_2, .string a0_3, .bool a0_4] 59 (0, 0)) (by (with_reducible repeat (first | refine blk_drewN ?_ _ | refine blk_drew ?_ | refine blk_alloc ?_ _)); refine blk_far ?_ NB157_163.out _; (with_reducible repeat (first | refine blk_drewN ?_ _ | refine blk_drew ?_ | refine blk_alloc ?_ _)); refine blk_far ?_ NB157_163.out _; (with_reducible repeat (first | refine blk_drewN ?_ _ | refine blk_drew ?_ | refine blk_alloc ?_ _)); refine blk_far ?_ NB157_163.out _; (with_reducible repeat (first | refine blk_drewN ?_ _ | refine blk_drew ?_ | refine blk_alloc ?_ _)); refine blk_far ?_ NB157_163.out _; (with_reducible repeat (first | refine blk_drewN ?_ _ | refine blk_drew ?_ | refine blk_alloc ?_ _)); refine blk_far ?_ NB157_163.out _; (with_reducible repeat (first | refine blk_drewN ?_ _ | refine blk_drew ?_ | refine blk_alloc ?_ _)); exact BK157.out) hb); have n2_ := Aside0.mk (blk_below (g := gb163) (o := .cells #[.int .i64 t158, .int .i64 t159, .int .i64 t160, .string t161, .bool t162] 59 (0, 0)) (by (with_reducible repeat (first | refine blk_drewN ?_ _ | refine blk_drew ?_ | refine blk_alloc ?_ _)); refine blk_put (cs := #[.int .i64 t158, .int .i64 t159, .int .i64 t160, .string t161, .bool false]) ?_ 4 _ rfl; (with_reducible repeat (first | refine blk_drewN ?_ _ | refine blk_drew ?_ | refine blk_alloc ?_ _)); refine blk_put (cs := #[.int .i64 t158, .int .i64 t159, .int .i64 t160, .string (⟨#[]⟩ : ByteArray), .bool false]) ?_ 3 _ rfl; (with_reducible repeat (first | refine blk_drewN ?_ _ | refine blk_drew ?_ | refine blk_alloc ?_ _)); refine blk_put (cs := #[.int .i64 t158, .int .i64 t159, .int .i64 0, .string (⟨#[]⟩ : ByteArray), .bool false]) ?_ 2 _ rfl; (with_reducible repeat (first | refine blk_drewN ?_ _ | refine blk_drew ?_ | refine blk_alloc ?_ _)); refine blk_put (cs := #[.int .i64 t158, .int .i64 0, .int .i64 0, .string (⟨#[]⟩ : ByteArray), .bool false]) ?_ 1 _ rfl; (with_reducible repeat (first | refine blk_drewN ?_ _ | refine blk_drew ?_ | refine blk_alloc ?_ _)); refine blk_put (cs := #[.int .i64 0, .int .i64 0, .int .i64 0, .string (⟨#[]⟩ : ByteArray), .bool false]) ?_ 0 _ rfl; (with_reducible repeat (first | refine blk_drewN ?_ _ | refine blk_drew ?_ | refine blk_alloc ?_ _)); exact BK163.out) hb); have n3_ := Aside0.mk (below_step (by repeat (first | (with_reducible first | exact HB.out | apply below_alloc | apply pw_below_drewN | apply below_drew1 | refine below_set ?_ GE157.out | refine below_set ?_ GE163.out) | exact HB.out)) hb); clear BK157; clear BK163; clear HB; have HO166 := n0_; have BK157 := n1_; have BK163 := n2_; have HB := n3_; clear n0_ n1_ n2_ n3_; (try clear hb); (try clear hb2); (try clear hk); (try clear hi); (try clear ho0))))
  (try simp only [Act.put, List.setIfInBounds_toArray, List.set_cons_zero, List.set_cons_succ])
  go_cut [30] (fun v30 wc => ∃ (kq : Nat) (x30_5 : Bool), v30 = .bool x30_5 ∧ Aside0 (tarnlaw28_NeedParts.j0 kq (wrap64 ((Go.bits .and .i64 a1 63) + 1)) t164 x30_5 t158 t159 t160 t161 t162 = some r) ∧ Aside0 (kq ≤ k) ∧ Aside0 (Kd.R k68 68 wc w.heap.size (fun _ => True) v165 t164) ∧ Aside0 (wc.heap[gb157]? = some (.cells #[.int .i64 a0_0, .int .i64 a0_1, .int .i64 a0_2, .string a0_3, .bool a0_4] 59 (0, 0))) ∧ Aside0 (wc.heap[gb163]? = some (.cells #[.int .i64 t158, .int .i64 t159, .int .i64 t160, .string t161, .bool t162] 59 (0, 0))) ∧ Aside0 (Below w.heap.size w wc))
  case first =>
    have H := HC6.out
    clear HC6
    replace H := Option.bind_eq_some_iff.mp H
    obtain ⟨t167, A140, H⟩ := H
    replace H : (if t167 = 0 then (tarnlaw28_NeedParts.j0 k (wrap64 ((Go.bits .and .i64 a1 63) + 1)) t164 (t158 == 3) t158 t159 t160 t161 t162) else (tarnlaw28_NeedParts.j0 k (wrap64 ((Go.bits .and .i64 a1 63) + 1)) t164 true t158 t159 t160 t161 t162)) = some r := H
    have A14 := Aside0.mk A140
    clear A140
    by_cases c15 : t167 = 0
    · rw [if_pos c15] at H
      have c15b0 : (t167 == 0) = true := beq_iff_eq.mpr c15
      have c15b1 : (t167 != 0) = false := bne_eq_false_iff_eq.mpr c15
      clear c15
      (first | rw [c15b0] | (simp only [i64_w, i32_w]; rw [c15b0]) | rw [c15b1] | skip)
      have H' := Aside0.mk H
      clear H
      have hnb16 := NB163_157.out
      have hnc16 := NB157_163.out
      have hcz17_0 : w13.cell? ⟨gb163, 0, none⟩ = some (.int .i64 t158) := (blk_cell BK163.out 0).trans rfl
      have hcz17_1 : w13.cell? ⟨gb163, 1, none⟩ = some (.int .i64 t159) := (blk_cell BK163.out 1).trans rfl
      have hcz17_2 : w13.cell? ⟨gb163, 2, none⟩ = some (.int .i64 t160) := (blk_cell BK163.out 2).trans rfl
      have hcz17_3 : w13.cell? ⟨gb163, 3, none⟩ = some (.string t161) := (blk_cell BK163.out 3).trans rfl
      have hcz17_4 : w13.cell? ⟨gb163, 4, none⟩ = some (.bool t162) := (blk_cell BK163.out 4).trans rfl
      have hfz17_0 := blk_frozen BK163.out 0
      have hfz17_1 := blk_frozen BK163.out 1
      have hfz17_2 := blk_frozen BK163.out 2
      have hfz17_3 := blk_frozen BK163.out 3
      have hfz17_4 := blk_frozen BK163.out 4
      go_wp2_with (first | (go_at_call 28; (with_reducible refine (need_May.calls k t158 t159 t160 t161 t162 (wrap64 ((Go.bits .and .i64 a1 63) + 1)) t167 _ A14.out).mono ?_); rintro e w18 ⟨rfl, hb⟩; have n0_ := Aside0.mk (Kd.R_below (by (with_reducible repeat (first | apply Kd.R_alloc | apply Kd.R_drewN | apply Kd.R_drew)); exact HO166.out) hb); have n1_ := Aside0.mk (blk_below (g := gb157) (o := .cells #[.int .i64 a0_0, .int .i64 a0_1, .int .i64 a0_2, .string a0_3, .bool a0_4] 59 (0, 0)) (by (with_reducible repeat (first | refine blk_drewN ?_ _ | refine blk_drew ?_ | refine blk_alloc ?_ _)); exact BK157.out) hb); have n2_ := Aside0.mk (blk_below (g := gb163) (o := .cells #[.int .i64 t158, .int .i64 t159, .int .i64 t160, .string t161, .bool t162] 59 (0, 0)) (by (with_reducible repeat (first | refine blk_drewN ?_ _ | refine blk_drew ?_ | refine blk_alloc ?_ _)); exact BK163.out) hb); have n3_ := Aside0.mk (below_step (by repeat (first | (with_reducible first | exact HB.out | apply below_alloc | apply pw_below_drewN | apply below_drew1 | refine below_set ?_ GE157.out | refine below_set ?_ GE163.out) | exact HB.out)) hb); clear HO166; clear BK157; clear BK163; clear HB; have HO166 := n0_; have BK157 := n1_; have BK163 := n2_; have HB := n3_; clear n0_ n1_ n2_ n3_; (try clear hb); (try clear hb2); (try clear hk); (try clear hi); have hcz19_0 : w18.cell? ⟨gb163, 0, none⟩ = some (.int .i64 t158) := (blk_cell BK163.out 0).trans rfl; have hcz19_1 : w18.cell? ⟨gb163, 1, none⟩ = some (.int .i64 t159) := (blk_cell BK163.out 1).trans rfl; have hcz19_2 : w18.cell? ⟨gb163, 2, none⟩ = some (.int .i64 t160) := (blk_cell BK163.out 2).trans rfl; have hcz19_3 : w18.cell? ⟨gb163, 3, none⟩ = some (.string t161) := (blk_cell BK163.out 3).trans rfl; have hcz19_4 : w18.cell? ⟨gb163, 4, none⟩ = some (.bool t162) := (blk_cell BK163.out 4).trans rfl; have hfz19_0 := blk_frozen BK163.out 0; have hfz19_1 := blk_frozen BK163.out 1; have hfz19_2 := blk_frozen BK163.out 2; have hfz19_3 := blk_frozen BK163.out 3; have hfz19_4 := blk_frozen BK163.out 4))
      repeat (go_quiet (first | (go_at_call 28; (with_reducible refine (need_May.calls k t158 t159 t160 t161 t162 (wrap64 ((Go.bits .and .i64 a1 63) + 1)) t167 _ A14.out).mono ?_); rintro e w18 ⟨rfl, hb⟩; have n0_ := Aside0.mk (Kd.R_below (by (with_reducible repeat (first | apply Kd.R_alloc | apply Kd.R_drewN | apply Kd.R_drew)); exact HO166.out) hb); have n1_ := Aside0.mk (blk_below (g := gb157) (o := .cells #[.int .i64 a0_0, .int .i64 a0_1, .int .i64 a0_2, .string a0_3, .bool a0_4] 59 (0, 0)) (by (with_reducible repeat (first | refine blk_drewN ?_ _ | refine blk_drew ?_ | refine blk_alloc ?_ _)); exact BK157.out) hb); have n2_ := Aside0.mk (blk_below (g := gb163) (o := .cells #[.int .i64 t158, .int .i64 t159, .int .i64 t160, .string t161, .bool t162] 59 (0, 0)) (by (with_reducible repeat (first | refine blk_drewN ?_ _ | refine blk_drew ?_ | refine blk_alloc ?_ _)); exact BK163.out) hb); have n3_ := Aside0.mk (below_step (by repeat (first | (with_reducible first | exact HB.out | apply below_alloc | apply pw_below_drewN | apply below_drew1 | refine below_set ?_ GE157.out | refine below_set ?_ GE163.out) | exact HB.out)) hb); clear HO166; clear BK157; clear BK163; clear HB; have HO166 := n0_; have BK157 := n1_; have BK163 := n2_; have HB := n3_; clear n0_ n1_ n2_ n3_; (try clear hb); (try clear hb2); (try clear hk); (try clear hi); have hcz19_0 : w18.cell? ⟨gb163, 0, none⟩ = some (.int .i64 t158) := (blk_cell BK163.out 0).trans rfl; have hcz19_1 : w18.cell? ⟨gb163, 1, none⟩ = some (.int .i64 t159) := (blk_cell BK163.out 1).trans rfl; have hcz19_2 : w18.cell? ⟨gb163, 2, none⟩ = some (.int .i64 t160) := (blk_cell BK163.out 2).trans rfl; have hcz19_3 : w18.cell? ⟨gb163, 3, none⟩ = some (.string t161) := (blk_cell BK163.out 3).trans rfl; have hcz19_4 : w18.cell? ⟨gb163, 4, none⟩ = some (.bool t162) := (blk_cell BK163.out 4).trans rfl; have hfz19_0 := blk_frozen BK163.out 0; have hfz19_1 := blk_frozen BK163.out 1; have hfz19_2 := blk_frozen BK163.out 2; have hfz19_3 := blk_frozen BK163.out 3; have hfz19_4 := blk_frozen BK163.out 4)); try go_wp2_with (first | (go_at_call 28; (with_reducible refine (need_May.calls k t158 t159 t160 t161 t162 (wrap64 ((Go.bits .and .i64 a1 63) + 1)) t167 _ A14.out).mono ?_); rintro e w18 ⟨rfl, hb⟩; have n0_ := Aside0.mk (Kd.R_below (by (with_reducible repeat (first | apply Kd.R_alloc | apply Kd.R_drewN | apply Kd.R_drew)); exact HO166.out) hb); have n1_ := Aside0.mk (blk_below (g := gb157) (o := .cells #[.int .i64 a0_0, .int .i64 a0_1, .int .i64 a0_2, .string a0_3, .bool a0_4] 59 (0, 0)) (by (with_reducible repeat (first | refine blk_drewN ?_ _ | refine blk_drew ?_ | refine blk_alloc ?_ _)); exact BK157.out) hb); have n2_ := Aside0.mk (blk_below (g := gb163) (o := .cells #[.int .i64 t158, .int .i64 t159, .int .i64 t160, .string t161, .bool t162] 59 (0, 0)) (by (with_reducible repeat (first | refine blk_drewN ?_ _ | refine blk_drew ?_ | refine blk_alloc ?_ _)); exact BK163.out) hb); have n3_ := Aside0.mk (below_step (by repeat (first | (with_reducible first | exact HB.out | apply below_alloc | apply pw_below_drewN | apply below_drew1 | refine below_set ?_ GE157.out | refine below_set ?_ GE163.out) | exact HB.out)) hb); clear HO166; clear BK157; clear BK163; clear HB; have HO166 := n0_; have BK157 := n1_; have BK163 := n2_; have HB := n3_; clear n0_ n1_ n2_ n3_; (try clear hb); (try clear hb2); (try clear hk); (try clear hi); have hcz19_0 : w18.cell? ⟨gb163, 0, none⟩ = some (.int .i64 t158) := (blk_cell BK163.out 0).trans rfl; have hcz19_1 : w18.cell? ⟨gb163, 1, none⟩ = some (.int .i64 t159) := (blk_cell BK163.out 1).trans rfl; have hcz19_2 : w18.cell? ⟨gb163, 2, none⟩ = some (.int .i64 t160) := (blk_cell BK163.out 2).trans rfl; have hcz19_3 : w18.cell? ⟨gb163, 3, none⟩ = some (.string t161) := (blk_cell BK163.out 3).trans rfl; have hcz19_4 : w18.cell? ⟨gb163, 4, none⟩ = some (.bool t162) := (blk_cell BK163.out 4).trans rfl; have hfz19_0 := blk_frozen BK163.out 0; have hfz19_1 := blk_frozen BK163.out 1; have hfz19_2 := blk_frozen BK163.out 2; have hfz19_3 := blk_frozen BK163.out 3; have hfz19_4 := blk_frozen BK163.out 4)))
      go_meet
      case rel => exact ⟨_, ((t158 == 3)), (by first | rfl | (simp; done) | (simp [*]; done)), H', ⟨by first | omega | exact Nat.le_refl _⟩, ⟨by (with_reducible repeat (first | apply Kd.R_alloc | apply Kd.R_drewN | apply Kd.R_drew)); exact HO166.out⟩, ⟨by (with_reducible repeat (first | refine blk_drewN ?_ _ | refine blk_drew ?_ | refine blk_alloc ?_ _)); exact BK157.out⟩, ⟨by (with_reducible repeat (first | refine blk_drewN ?_ _ | refine blk_drew ?_ | refine blk_alloc ?_ _)); exact BK163.out⟩, ⟨by repeat (first | (with_reducible first | exact HB.out | apply below_alloc | apply pw_below_drewN | apply below_drew1 | refine below_set ?_ GE157.out | refine below_set ?_ GE163.out) | exact HB.out)⟩⟩
    · rw [if_neg c15] at H
      have c15b0 : (t167 == 0) = false := beq_eq_false_iff_ne.mpr c15
      have c15b1 : (t167 != 0) = true := bne_iff_ne.mpr c15
      (first | rw [c15b0] | (simp only [i64_w, i32_w]; rw [c15b0]) | rw [c15b1] | skip)
      have H' := Aside0.mk H
      clear H
      have hnb20 := NB163_157.out
      have hnc20 := NB157_163.out
      have hcz21_0 : w13.cell? ⟨gb163, 0, none⟩ = some (.int .i64 t158) := (blk_cell BK163.out 0).trans rfl
      have hcz21_1 : w13.cell? ⟨gb163, 1, none⟩ = some (.int .i64 t159) := (blk_cell BK163.out 1).trans rfl
      have hcz21_2 : w13.cell? ⟨gb163, 2, none⟩ = some (.int .i64 t160) := (blk_cell BK163.out 2).trans rfl
      have hcz21_3 : w13.cell? ⟨gb163, 3, none⟩ = some (.string t161) := (blk_cell BK163.out 3).trans rfl
      have hcz21_4 : w13.cell? ⟨gb163, 4, none⟩ = some (.bool t162) := (blk_cell BK163.out 4).trans rfl
      have hfz21_0 := blk_frozen BK163.out 0
      have hfz21_1 := blk_frozen BK163.out 1
      have hfz21_2 := blk_frozen BK163.out 2
      have hfz21_3 := blk_frozen BK163.out 3
      have hfz21_4 := blk_frozen BK163.out 4
      go_wp2_with (first | (go_at_call 28; (with_reducible refine (need_May.calls k t158 t159 t160 t161 t162 (wrap64 ((Go.bits .and .i64 a1 63) + 1)) t167 _ A14.out).mono ?_); rintro e w22 ⟨rfl, hb⟩; have n0_ := Aside0.mk (Kd.R_below (by (with_reducible repeat (first | apply Kd.R_alloc | apply Kd.R_drewN | apply Kd.R_drew)); exact HO166.out) hb); have n1_ := Aside0.mk (blk_below (g := gb157) (o := .cells #[.int .i64 a0_0, .int .i64 a0_1, .int .i64 a0_2, .string a0_3, .bool a0_4] 59 (0, 0)) (by (with_reducible repeat (first | refine blk_drewN ?_ _ | refine blk_drew ?_ | refine blk_alloc ?_ _)); exact BK157.out) hb); have n2_ := Aside0.mk (blk_below (g := gb163) (o := .cells #[.int .i64 t158, .int .i64 t159, .int .i64 t160, .string t161, .bool t162] 59 (0, 0)) (by (with_reducible repeat (first | refine blk_drewN ?_ _ | refine blk_drew ?_ | refine blk_alloc ?_ _)); exact BK163.out) hb); have n3_ := Aside0.mk (below_step (by repeat (first | (with_reducible first | exact HB.out | apply below_alloc | apply pw_below_drewN | apply below_drew1 | refine below_set ?_ GE157.out | refine below_set ?_ GE163.out) | exact HB.out)) hb); clear HO166; clear BK157; clear BK163; clear HB; have HO166 := n0_; have BK157 := n1_; have BK163 := n2_; have HB := n3_; clear n0_ n1_ n2_ n3_; (try clear hb); (try clear hb2); (try clear hk); (try clear hi)))
      repeat (go_quiet (first | (go_at_call 28; (with_reducible refine (need_May.calls k t158 t159 t160 t161 t162 (wrap64 ((Go.bits .and .i64 a1 63) + 1)) t167 _ A14.out).mono ?_); rintro e w22 ⟨rfl, hb⟩; have n0_ := Aside0.mk (Kd.R_below (by (with_reducible repeat (first | apply Kd.R_alloc | apply Kd.R_drewN | apply Kd.R_drew)); exact HO166.out) hb); have n1_ := Aside0.mk (blk_below (g := gb157) (o := .cells #[.int .i64 a0_0, .int .i64 a0_1, .int .i64 a0_2, .string a0_3, .bool a0_4] 59 (0, 0)) (by (with_reducible repeat (first | refine blk_drewN ?_ _ | refine blk_drew ?_ | refine blk_alloc ?_ _)); exact BK157.out) hb); have n2_ := Aside0.mk (blk_below (g := gb163) (o := .cells #[.int .i64 t158, .int .i64 t159, .int .i64 t160, .string t161, .bool t162] 59 (0, 0)) (by (with_reducible repeat (first | refine blk_drewN ?_ _ | refine blk_drew ?_ | refine blk_alloc ?_ _)); exact BK163.out) hb); have n3_ := Aside0.mk (below_step (by repeat (first | (with_reducible first | exact HB.out | apply below_alloc | apply pw_below_drewN | apply below_drew1 | refine below_set ?_ GE157.out | refine below_set ?_ GE163.out) | exact HB.out)) hb); clear HO166; clear BK157; clear BK163; clear HB; have HO166 := n0_; have BK157 := n1_; have BK163 := n2_; have HB := n3_; clear n0_ n1_ n2_ n3_; (try clear hb); (try clear hb2); (try clear hk); (try clear hi))); try go_wp2_with (first | (go_at_call 28; (with_reducible refine (need_May.calls k t158 t159 t160 t161 t162 (wrap64 ((Go.bits .and .i64 a1 63) + 1)) t167 _ A14.out).mono ?_); rintro e w22 ⟨rfl, hb⟩; have n0_ := Aside0.mk (Kd.R_below (by (with_reducible repeat (first | apply Kd.R_alloc | apply Kd.R_drewN | apply Kd.R_drew)); exact HO166.out) hb); have n1_ := Aside0.mk (blk_below (g := gb157) (o := .cells #[.int .i64 a0_0, .int .i64 a0_1, .int .i64 a0_2, .string a0_3, .bool a0_4] 59 (0, 0)) (by (with_reducible repeat (first | refine blk_drewN ?_ _ | refine blk_drew ?_ | refine blk_alloc ?_ _)); exact BK157.out) hb); have n2_ := Aside0.mk (blk_below (g := gb163) (o := .cells #[.int .i64 t158, .int .i64 t159, .int .i64 t160, .string t161, .bool t162] 59 (0, 0)) (by (with_reducible repeat (first | refine blk_drewN ?_ _ | refine blk_drew ?_ | refine blk_alloc ?_ _)); exact BK163.out) hb); have n3_ := Aside0.mk (below_step (by repeat (first | (with_reducible first | exact HB.out | apply below_alloc | apply pw_below_drewN | apply below_drew1 | refine below_set ?_ GE157.out | refine below_set ?_ GE163.out) | exact HB.out)) hb); clear HO166; clear BK157; clear BK163; clear HB; have HO166 := n0_; have BK157 := n1_; have BK163 := n2_; have HB := n3_; clear n0_ n1_ n2_ n3_; (try clear hb); (try clear hb2); (try clear hk); (try clear hi))))
      go_meet
      case rel => exact ⟨_, (true), (by first | rfl | (simp; done) | (simp [*]; done)), H', ⟨by first | omega | exact Nat.le_refl _⟩, ⟨by (with_reducible repeat (first | apply Kd.R_alloc | apply Kd.R_drewN | apply Kd.R_drew)); exact HO166.out⟩, ⟨by (with_reducible repeat (first | refine blk_drewN ?_ _ | refine blk_drew ?_ | refine blk_alloc ?_ _)); exact BK157.out⟩, ⟨by (with_reducible repeat (first | refine blk_drewN ?_ _ | refine blk_drew ?_ | refine blk_alloc ?_ _)); exact BK163.out⟩, ⟨by repeat (first | (with_reducible first | exact HB.out | apply below_alloc | apply pw_below_drewN | apply below_drew1 | refine below_set ?_ GE157.out | refine below_set ?_ GE163.out) | exact HB.out)⟩⟩
  case rest =>
    clear HC6
    try clear c1
    try clear c2
    try clear p2
    try clear c6
    try clear p6
    try clear c11
    try clear c15
    try clear c15b0
    try clear c15b1
    try clear c16
    try clear c20
    try clear hcz12_0
    try clear hcz12_1
    try clear hcz12_2
    try clear hcz12_3
    try clear hcz12_4
    try clear hcz17_0
    try clear hcz17_1
    try clear hcz17_2
    try clear hcz17_3
    try clear hcz17_4
    try clear hcz19_0
    try clear hcz19_1
    try clear hcz19_2
    try clear hcz19_3
    try clear hcz19_4
    try clear hcz21_0
    try clear hcz21_1
    try clear hcz21_2
    try clear hcz21_3
    try clear hcz21_4
    try clear hcz8_0
    try clear hcz8_1
    try clear hcz8_2
    try clear hcz8_3
    try clear hcz8_4
    try clear hfz12_0
    try clear hfz12_1
    try clear hfz12_2
    try clear hfz12_3
    try clear hfz12_4
    try clear hfz17_0
    try clear hfz17_1
    try clear hfz17_2
    try clear hfz17_3
    try clear hfz17_4
    try clear hfz19_0
    try clear hfz19_1
    try clear hfz19_2
    try clear hfz19_3
    try clear hfz19_4
    try clear hfz21_0
    try clear hfz21_1
    try clear hfz21_2
    try clear hfz21_3
    try clear hfz21_4
    try clear hfz8_0
    try clear hfz8_1
    try clear hfz8_2
    try clear hfz8_3
    try clear hfz8_4
    obtain ⟨kq, x30_5, rfl, HA, HJ5, HO_9, BK157, BK163, HB⟩ := hcut
    cases kq with
    | zero => exact absurd HA.out (by simp [tarnlaw28_NeedParts.j0])
    | succ kj5 =>
      have H := HA.out
      clear HA
      simp only [tarnlaw28_NeedParts.j0] at H
      by_cases c23 : x30_5 = true
      · subst c23
        have H1 : ((tarnlaw28_awake.f kj5).bind fun t168 => (if t168 = true then (some ((t164.length : Int) == 0)) else (some false))) = some r := by rw [if_pos rfl] at H; exact H
        clear H
        have H := H1
        clear H1
        replace H := Option.bind_eq_some_iff.mp H
        obtain ⟨t168, A240, H⟩ := H
        replace H : (if t168 = true then (some ((t164.length : Int) == 0)) else (some false)) = some r := H
        have A24 := Aside0.mk A240
        clear A240
        by_cases c25 : t168 = true
        · subst c25
          have H1 : (some ((t164.length : Int) == 0)) = some r := by rw [if_pos rfl] at H; exact H
          clear H
          have H := H1
          clear H1
          obtain rfl := Option.some.inj H
          go_wp2_with (first | (go_at_call 29; (with_reducible refine (tarnlaw28_awake.calls kj5  true _ A24.out).mono ?_); rintro e w26 ⟨rfl, hb⟩; have n0_ := Aside0.mk (Kd.R_below (by (with_reducible repeat (first | apply Kd.R_alloc | apply Kd.R_drewN | apply Kd.R_drew)); exact HO_9.out) hb); have n1_ := Aside0.mk (blk_below (g := gb157) (o := .cells #[.int .i64 a0_0, .int .i64 a0_1, .int .i64 a0_2, .string a0_3, .bool a0_4] 59 (0, 0)) (by (with_reducible repeat (first | refine blk_drewN ?_ _ | refine blk_drew ?_ | refine blk_alloc ?_ _)); exact BK157.out) hb); have n2_ := Aside0.mk (blk_below (g := gb163) (o := .cells #[.int .i64 t158, .int .i64 t159, .int .i64 t160, .string t161, .bool t162] 59 (0, 0)) (by (with_reducible repeat (first | refine blk_drewN ?_ _ | refine blk_drew ?_ | refine blk_alloc ?_ _)); exact BK163.out) hb); have n3_ := Aside0.mk (below_step (by repeat (first | (with_reducible first | exact HB.out | apply below_alloc | apply pw_below_drewN | apply below_drew1 | refine below_set ?_ GE157.out | refine below_set ?_ GE163.out) | exact HB.out)) hb); clear HO_9; clear BK157; clear BK163; clear HB; have HO_9 := n0_; have BK157 := n1_; have BK163 := n2_; have HB := n3_; clear n0_ n1_ n2_ n3_; (try clear hb); (try clear hb2); (try clear hk); (try clear hi); obtain ⟨Ao27, co27, eo27⟩ := Kd.R_slice HO_9.out; subst eo27))
          repeat (go_quiet (first | (go_at_call 29; (with_reducible refine (tarnlaw28_awake.calls kj5  true _ A24.out).mono ?_); rintro e w26 ⟨rfl, hb⟩; have n0_ := Aside0.mk (Kd.R_below (by (with_reducible repeat (first | apply Kd.R_alloc | apply Kd.R_drewN | apply Kd.R_drew)); exact HO_9.out) hb); have n1_ := Aside0.mk (blk_below (g := gb157) (o := .cells #[.int .i64 a0_0, .int .i64 a0_1, .int .i64 a0_2, .string a0_3, .bool a0_4] 59 (0, 0)) (by (with_reducible repeat (first | refine blk_drewN ?_ _ | refine blk_drew ?_ | refine blk_alloc ?_ _)); exact BK157.out) hb); have n2_ := Aside0.mk (blk_below (g := gb163) (o := .cells #[.int .i64 t158, .int .i64 t159, .int .i64 t160, .string t161, .bool t162] 59 (0, 0)) (by (with_reducible repeat (first | refine blk_drewN ?_ _ | refine blk_drew ?_ | refine blk_alloc ?_ _)); exact BK163.out) hb); have n3_ := Aside0.mk (below_step (by repeat (first | (with_reducible first | exact HB.out | apply below_alloc | apply pw_below_drewN | apply below_drew1 | refine below_set ?_ GE157.out | refine below_set ?_ GE163.out) | exact HB.out)) hb); clear HO_9; clear BK157; clear BK163; clear HB; have HO_9 := n0_; have BK157 := n1_; have BK163 := n2_; have HB := n3_; clear n0_ n1_ n2_ n3_; (try clear hb); (try clear hb2); (try clear hk); (try clear hi); obtain ⟨Ao27, co27, eo27⟩ := Kd.R_slice HO_9.out; subst eo27)); try go_wp2_with (first | (go_at_call 29; (with_reducible refine (tarnlaw28_awake.calls kj5  true _ A24.out).mono ?_); rintro e w26 ⟨rfl, hb⟩; have n0_ := Aside0.mk (Kd.R_below (by (with_reducible repeat (first | apply Kd.R_alloc | apply Kd.R_drewN | apply Kd.R_drew)); exact HO_9.out) hb); have n1_ := Aside0.mk (blk_below (g := gb157) (o := .cells #[.int .i64 a0_0, .int .i64 a0_1, .int .i64 a0_2, .string a0_3, .bool a0_4] 59 (0, 0)) (by (with_reducible repeat (first | refine blk_drewN ?_ _ | refine blk_drew ?_ | refine blk_alloc ?_ _)); exact BK157.out) hb); have n2_ := Aside0.mk (blk_below (g := gb163) (o := .cells #[.int .i64 t158, .int .i64 t159, .int .i64 t160, .string t161, .bool t162] 59 (0, 0)) (by (with_reducible repeat (first | refine blk_drewN ?_ _ | refine blk_drew ?_ | refine blk_alloc ?_ _)); exact BK163.out) hb); have n3_ := Aside0.mk (below_step (by repeat (first | (with_reducible first | exact HB.out | apply below_alloc | apply pw_below_drewN | apply below_drew1 | refine below_set ?_ GE157.out | refine below_set ?_ GE163.out) | exact HB.out)) hb); clear HO_9; clear BK157; clear BK163; clear HB; have HO_9 := n0_; have BK157 := n1_; have BK163 := n2_; have HB := n3_; clear n0_ n1_ n2_ n3_; (try clear hb); (try clear hb2); (try clear hk); (try clear hi); obtain ⟨Ao27, co27, eo27⟩ := Kd.R_slice HO_9.out; subst eo27)))
          go_ret
          exact ⟨by first | rfl | (simp [errW_none, errW_some] <;> rfl) | (simp [*, errW_none, errW_some] <;> rfl), by repeat (first | (with_reducible first | exact HB.out | apply below_alloc | apply pw_below_drewN | apply below_drew1 | refine below_set ?_ GE157.out | refine below_set ?_ GE163.out) | exact HB.out)⟩
        · replace c25 := Bool.eq_false_iff.mpr c25
          subst c25
          have H1 : (some false) = some r := by rw [if_neg (show ¬ (false = true) by decide)] at H; exact H
          clear H
          have H := H1
          clear H1
          obtain rfl := Option.some.inj H
          go_wp2_with (first | (go_at_call 29; (with_reducible refine (tarnlaw28_awake.calls kj5  false _ A24.out).mono ?_); rintro e w28 ⟨rfl, hb⟩; have n0_ := Aside0.mk (Kd.R_below (by (with_reducible repeat (first | apply Kd.R_alloc | apply Kd.R_drewN | apply Kd.R_drew)); exact HO_9.out) hb); have n1_ := Aside0.mk (blk_below (g := gb157) (o := .cells #[.int .i64 a0_0, .int .i64 a0_1, .int .i64 a0_2, .string a0_3, .bool a0_4] 59 (0, 0)) (by (with_reducible repeat (first | refine blk_drewN ?_ _ | refine blk_drew ?_ | refine blk_alloc ?_ _)); exact BK157.out) hb); have n2_ := Aside0.mk (blk_below (g := gb163) (o := .cells #[.int .i64 t158, .int .i64 t159, .int .i64 t160, .string t161, .bool t162] 59 (0, 0)) (by (with_reducible repeat (first | refine blk_drewN ?_ _ | refine blk_drew ?_ | refine blk_alloc ?_ _)); exact BK163.out) hb); have n3_ := Aside0.mk (below_step (by repeat (first | (with_reducible first | exact HB.out | apply below_alloc | apply pw_below_drewN | apply below_drew1 | refine below_set ?_ GE157.out | refine below_set ?_ GE163.out) | exact HB.out)) hb); clear HO_9; clear BK157; clear BK163; clear HB; have HO_9 := n0_; have BK157 := n1_; have BK163 := n2_; have HB := n3_; clear n0_ n1_ n2_ n3_; (try clear hb); (try clear hb2); (try clear hk); (try clear hi)))
          repeat (go_quiet (first | (go_at_call 29; (with_reducible refine (tarnlaw28_awake.calls kj5  false _ A24.out).mono ?_); rintro e w28 ⟨rfl, hb⟩; have n0_ := Aside0.mk (Kd.R_below (by (with_reducible repeat (first | apply Kd.R_alloc | apply Kd.R_drewN | apply Kd.R_drew)); exact HO_9.out) hb); have n1_ := Aside0.mk (blk_below (g := gb157) (o := .cells #[.int .i64 a0_0, .int .i64 a0_1, .int .i64 a0_2, .string a0_3, .bool a0_4] 59 (0, 0)) (by (with_reducible repeat (first | refine blk_drewN ?_ _ | refine blk_drew ?_ | refine blk_alloc ?_ _)); exact BK157.out) hb); have n2_ := Aside0.mk (blk_below (g := gb163) (o := .cells #[.int .i64 t158, .int .i64 t159, .int .i64 t160, .string t161, .bool t162] 59 (0, 0)) (by (with_reducible repeat (first | refine blk_drewN ?_ _ | refine blk_drew ?_ | refine blk_alloc ?_ _)); exact BK163.out) hb); have n3_ := Aside0.mk (below_step (by repeat (first | (with_reducible first | exact HB.out | apply below_alloc | apply pw_below_drewN | apply below_drew1 | refine below_set ?_ GE157.out | refine below_set ?_ GE163.out) | exact HB.out)) hb); clear HO_9; clear BK157; clear BK163; clear HB; have HO_9 := n0_; have BK157 := n1_; have BK163 := n2_; have HB := n3_; clear n0_ n1_ n2_ n3_; (try clear hb); (try clear hb2); (try clear hk); (try clear hi))); try go_wp2_with (first | (go_at_call 29; (with_reducible refine (tarnlaw28_awake.calls kj5  false _ A24.out).mono ?_); rintro e w28 ⟨rfl, hb⟩; have n0_ := Aside0.mk (Kd.R_below (by (with_reducible repeat (first | apply Kd.R_alloc | apply Kd.R_drewN | apply Kd.R_drew)); exact HO_9.out) hb); have n1_ := Aside0.mk (blk_below (g := gb157) (o := .cells #[.int .i64 a0_0, .int .i64 a0_1, .int .i64 a0_2, .string a0_3, .bool a0_4] 59 (0, 0)) (by (with_reducible repeat (first | refine blk_drewN ?_ _ | refine blk_drew ?_ | refine blk_alloc ?_ _)); exact BK157.out) hb); have n2_ := Aside0.mk (blk_below (g := gb163) (o := .cells #[.int .i64 t158, .int .i64 t159, .int .i64 t160, .string t161, .bool t162] 59 (0, 0)) (by (with_reducible repeat (first | refine blk_drewN ?_ _ | refine blk_drew ?_ | refine blk_alloc ?_ _)); exact BK163.out) hb); have n3_ := Aside0.mk (below_step (by repeat (first | (with_reducible first | exact HB.out | apply below_alloc | apply pw_below_drewN | apply below_drew1 | refine below_set ?_ GE157.out | refine below_set ?_ GE163.out) | exact HB.out)) hb); clear HO_9; clear BK157; clear BK163; clear HB; have HO_9 := n0_; have BK157 := n1_; have BK163 := n2_; have HB := n3_; clear n0_ n1_ n2_ n3_; (try clear hb); (try clear hb2); (try clear hk); (try clear hi))))
          go_ret
          exact ⟨by first | rfl | (simp [errW_none, errW_some] <;> rfl) | (simp [*, errW_none, errW_some] <;> rfl), by repeat (first | (with_reducible first | exact HB.out | apply below_alloc | apply pw_below_drewN | apply below_drew1 | refine below_set ?_ GE157.out | refine below_set ?_ GE163.out) | exact HB.out)⟩
      · replace c23 := Bool.eq_false_iff.mpr c23
        subst c23
        have H1 : ((need_Size.f t158 t159 t160 t161 t162).bind fun t169 => (if (wrap64 ((t164.length : Int) * 32)) = t169 then (tarnlaw28_NeedParts.l0 kj5 (wrap64 ((Go.bits .and .i64 a1 63) + 1)) t164 0 t158 t159 t160 t161 t162) else (some false))) = some r := by rw [if_neg (show ¬ (false = true) by decide)] at H; exact H
        clear H
        have H := H1
        clear H1
        replace H := Option.bind_eq_some_iff.mp H
        obtain ⟨t169, A290, H⟩ := H
        replace H : (if (wrap64 ((t164.length : Int) * 32)) = t169 then (tarnlaw28_NeedParts.l0 kj5 (wrap64 ((Go.bits .and .i64 a1 63) + 1)) t164 0 t158 t159 t160 t161 t162) else (some false)) = some r := H
        have A29 := Aside0.mk A290
        clear A290
        by_cases c30 : (wrap64 ((t164.length : Int) * 32)) = t169
        · rw [if_pos c30] at H
          have c30b0 : ((wrap64 ((t164.length : Int) * 32)) == t169) = true := beq_iff_eq.mpr c30
          have c30b1 : ((wrap64 ((t164.length : Int) * 32)) != t169) = false := bne_eq_false_iff_eq.mpr c30
          clear c30
          have H' := Aside0.mk H
          clear H
          obtain ⟨Ao31, co31, eo31⟩ := Kd.R_slice HO_9.out
          subst eo31
          have hnb32 := NB163_157.out
          have hnc32 := NB157_163.out
          have hcz33_0 : wc.cell? ⟨gb163, 0, none⟩ = some (.int .i64 t158) := (blk_cell BK163.out 0).trans rfl
          have hcz33_1 : wc.cell? ⟨gb163, 1, none⟩ = some (.int .i64 t159) := (blk_cell BK163.out 1).trans rfl
          have hcz33_2 : wc.cell? ⟨gb163, 2, none⟩ = some (.int .i64 t160) := (blk_cell BK163.out 2).trans rfl
          have hcz33_3 : wc.cell? ⟨gb163, 3, none⟩ = some (.string t161) := (blk_cell BK163.out 3).trans rfl
          have hcz33_4 : wc.cell? ⟨gb163, 4, none⟩ = some (.bool t162) := (blk_cell BK163.out 4).trans rfl
          have hfz33_0 := blk_frozen BK163.out 0
          have hfz33_1 := blk_frozen BK163.out 1
          have hfz33_2 := blk_frozen BK163.out 2
          have hfz33_3 := blk_frozen BK163.out 3
          have hfz33_4 := blk_frozen BK163.out 4
          go_wp2_with (first | (go_at_call 30; (with_reducible refine (need_Size.calls t158 t159 t160 t161 t162 t169 _ A29.out).mono ?_); rintro e w34 ⟨rfl, hb⟩; have n0_ := Aside0.mk (Kd.R_below (by (with_reducible repeat (first | apply Kd.R_alloc | apply Kd.R_drewN | apply Kd.R_drew)); exact HO_9.out) hb); have n1_ := Aside0.mk (blk_below (g := gb157) (o := .cells #[.int .i64 a0_0, .int .i64 a0_1, .int .i64 a0_2, .string a0_3, .bool a0_4] 59 (0, 0)) (by (with_reducible repeat (first | refine blk_drewN ?_ _ | refine blk_drew ?_ | refine blk_alloc ?_ _)); exact BK157.out) hb); have n2_ := Aside0.mk (blk_below (g := gb163) (o := .cells #[.int .i64 t158, .int .i64 t159, .int .i64 t160, .string t161, .bool t162] 59 (0, 0)) (by (with_reducible repeat (first | refine blk_drewN ?_ _ | refine blk_drew ?_ | refine blk_alloc ?_ _)); exact BK163.out) hb); have n3_ := Aside0.mk (below_step (by repeat (first | (with_reducible first | exact HB.out | apply below_alloc | apply pw_below_drewN | apply below_drew1 | refine below_set ?_ GE157.out | refine below_set ?_ GE163.out) | exact HB.out)) hb); clear HO_9; clear BK157; clear BK163; clear HB; have HO_9 := n0_; have BK157 := n1_; have BK163 := n2_; have HB := n3_; clear n0_ n1_ n2_ n3_; (try clear hb); (try clear hb2); (try clear hk); (try clear hi)))
          repeat (go_quiet (first | (go_at_call 30; (with_reducible refine (need_Size.calls t158 t159 t160 t161 t162 t169 _ A29.out).mono ?_); rintro e w34 ⟨rfl, hb⟩; have n0_ := Aside0.mk (Kd.R_below (by (with_reducible repeat (first | apply Kd.R_alloc | apply Kd.R_drewN | apply Kd.R_drew)); exact HO_9.out) hb); have n1_ := Aside0.mk (blk_below (g := gb157) (o := .cells #[.int .i64 a0_0, .int .i64 a0_1, .int .i64 a0_2, .string a0_3, .bool a0_4] 59 (0, 0)) (by (with_reducible repeat (first | refine blk_drewN ?_ _ | refine blk_drew ?_ | refine blk_alloc ?_ _)); exact BK157.out) hb); have n2_ := Aside0.mk (blk_below (g := gb163) (o := .cells #[.int .i64 t158, .int .i64 t159, .int .i64 t160, .string t161, .bool t162] 59 (0, 0)) (by (with_reducible repeat (first | refine blk_drewN ?_ _ | refine blk_drew ?_ | refine blk_alloc ?_ _)); exact BK163.out) hb); have n3_ := Aside0.mk (below_step (by repeat (first | (with_reducible first | exact HB.out | apply below_alloc | apply pw_below_drewN | apply below_drew1 | refine below_set ?_ GE157.out | refine below_set ?_ GE163.out) | exact HB.out)) hb); clear HO_9; clear BK157; clear BK163; clear HB; have HO_9 := n0_; have BK157 := n1_; have BK163 := n2_; have HB := n3_; clear n0_ n1_ n2_ n3_; (try clear hb); (try clear hb2); (try clear hk); (try clear hi))); try go_wp2_with (first | (go_at_call 30; (with_reducible refine (need_Size.calls t158 t159 t160 t161 t162 t169 _ A29.out).mono ?_); rintro e w34 ⟨rfl, hb⟩; have n0_ := Aside0.mk (Kd.R_below (by (with_reducible repeat (first | apply Kd.R_alloc | apply Kd.R_drewN | apply Kd.R_drew)); exact HO_9.out) hb); have n1_ := Aside0.mk (blk_below (g := gb157) (o := .cells #[.int .i64 a0_0, .int .i64 a0_1, .int .i64 a0_2, .string a0_3, .bool a0_4] 59 (0, 0)) (by (with_reducible repeat (first | refine blk_drewN ?_ _ | refine blk_drew ?_ | refine blk_alloc ?_ _)); exact BK157.out) hb); have n2_ := Aside0.mk (blk_below (g := gb163) (o := .cells #[.int .i64 t158, .int .i64 t159, .int .i64 t160, .string t161, .bool t162] 59 (0, 0)) (by (with_reducible repeat (first | refine blk_drewN ?_ _ | refine blk_drew ?_ | refine blk_alloc ?_ _)); exact BK163.out) hb); have n3_ := Aside0.mk (below_step (by repeat (first | (with_reducible first | exact HB.out | apply below_alloc | apply pw_below_drewN | apply below_drew1 | refine below_set ?_ GE157.out | refine below_set ?_ GE163.out) | exact HB.out)) hb); clear HO_9; clear BK157; clear BK163; clear HB; have HO_9 := n0_; have BK157 := n1_; have BK163 := n2_; have HB := n3_; clear n0_ n1_ n2_ n3_; (try clear hb); (try clear hb2); (try clear hk); (try clear hi))))
          go_loopg [10] kj5 (fun kq v10 w' => ∃ (x10_2 : Int), v10 = .int .i64 x10_2 ∧ Aside0 (tarnlaw28_NeedParts.l0 kq (wrap64 ((Go.bits .and .i64 a1 63) + 1)) t164 x10_2 t158 t159 t160 t161 t162 = some r) ∧ Aside0 (kq ≤ kj5) ∧ Aside0 (Kd.R k68 68 w' w.heap.size (fun _ => True) (.slice Ao31 t164.length co31) t164) ∧ Aside0 (w'.heap[gb157]? = some (.cells #[.int .i64 a0_0, .int .i64 a0_1, .int .i64 a0_2, .string a0_3, .bool a0_4] 59 (0, 0))) ∧ Aside0 (w'.heap[gb163]? = some (.cells #[.int .i64 t158, .int .i64 t159, .int .i64 t160, .string t161, .bool t162] 59 (0, 0))) ∧ Aside0 (Below w.heap.size w w'))
          case atStart => exact ⟨(0), (by first | rfl | (simp; done) | (simp [*]; done)), H', ⟨Nat.le_refl _⟩, ⟨by (with_reducible repeat (first | apply Kd.R_alloc | apply Kd.R_drewN | apply Kd.R_drew)); exact HO_9.out⟩, ⟨by (with_reducible repeat (first | refine blk_drewN ?_ _ | refine blk_drew ?_ | refine blk_alloc ?_ _)); exact BK157.out⟩, ⟨by (with_reducible repeat (first | refine blk_drewN ?_ _ | refine blk_drew ?_ | refine blk_alloc ?_ _)); exact BK163.out⟩, ⟨by repeat (first | (with_reducible first | exact HB.out | apply below_alloc | apply pw_below_drewN | apply below_drew1 | refine below_set ?_ GE157.out | refine below_set ?_ GE163.out) | exact HB.out)⟩⟩
          case round =>
            clear H'
            try clear c1
            try clear c2
            try clear p2
            try clear c3
            try clear c6
            try clear p6
            try clear c11
            try clear c15
            try clear c15b0
            try clear c15b1
            try clear c16
            try clear c20
            try clear c23
            try clear c25
            try clear c30
            try clear c30b0
            try clear c30b1
            try clear c32
            try clear hcz12_0
            try clear hcz12_1
            try clear hcz12_2
            try clear hcz12_3
            try clear hcz12_4
            try clear hcz17_0
            try clear hcz17_1
            try clear hcz17_2
            try clear hcz17_3
            try clear hcz17_4
            try clear hcz19_0
            try clear hcz19_1
            try clear hcz19_2
            try clear hcz19_3
            try clear hcz19_4
            try clear hcz21_0
            try clear hcz21_1
            try clear hcz21_2
            try clear hcz21_3
            try clear hcz21_4
            try clear hcz33_0
            try clear hcz33_1
            try clear hcz33_2
            try clear hcz33_3
            try clear hcz33_4
            try clear hcz8_0
            try clear hcz8_1
            try clear hcz8_2
            try clear hcz8_3
            try clear hcz8_4
            try clear hfz12_0
            try clear hfz12_1
            try clear hfz12_2
            try clear hfz12_3
            try clear hfz12_4
            try clear hfz17_0
            try clear hfz17_1
            try clear hfz17_2
            try clear hfz17_3
            try clear hfz17_4
            try clear hfz19_0
            try clear hfz19_1
            try clear hfz19_2
            try clear hfz19_3
            try clear hfz19_4
            try clear hfz21_0
            try clear hfz21_1
            try clear hfz21_2
            try clear hfz21_3
            try clear hfz21_4
            try clear hfz33_0
            try clear hfz33_1
            try clear hfz33_2
            try clear hfz33_3
            try clear hfz33_4
            try clear hfz8_0
            try clear hfz8_1
            try clear hfz8_2
            try clear hfz8_3
            try clear hfz8_4
            try clear p2
            try clear p6
            obtain ⟨x10_2, rfl, HA, HK2, HO_9, BK157, BK163, HB⟩ := hrel
            cases gk with
            | zero => exact absurd HA.out (by simp [tarnlaw28_NeedParts.l0])
            | succ k2 =>
              have H := HA.out
              clear HA
              simp only [tarnlaw28_NeedParts.l0] at H
              by_cases c35 : x10_2 < (t164.length : Int)
              · rw [if_pos c35] at H
                have c35b0 : decide (x10_2 < (t164.length : Int)) = true := decide_eq_true c35
                clear c35
                have HC36 := Aside0.mk H
                clear H
                have hnb37 := NB163_157.out
                have hnc37 := NB157_163.out
                have hcz38_0 : wr.cell? ⟨gb163, 0, none⟩ = some (.int .i64 t158) := (blk_cell BK163.out 0).trans rfl
                have hcz38_1 : wr.cell? ⟨gb163, 1, none⟩ = some (.int .i64 t159) := (blk_cell BK163.out 1).trans rfl
                have hcz38_2 : wr.cell? ⟨gb163, 2, none⟩ = some (.int .i64 t160) := (blk_cell BK163.out 2).trans rfl
                have hcz38_3 : wr.cell? ⟨gb163, 3, none⟩ = some (.string t161) := (blk_cell BK163.out 3).trans rfl
                have hcz38_4 : wr.cell? ⟨gb163, 4, none⟩ = some (.bool t162) := (blk_cell BK163.out 4).trans rfl
                have hfz38_0 := blk_frozen BK163.out 0
                have hfz38_1 := blk_frozen BK163.out 1
                have hfz38_2 := blk_frozen BK163.out 2
                have hfz38_3 := blk_frozen BK163.out 3
                have hfz38_4 := blk_frozen BK163.out 4
                go_upto_if 60 with (first | ((with_reducible refine gate_dst (N := 11) rfl ?_); (try (refine gate_guard (by rfl) ?_; dsimp only)); refine box_event ?hg (N := 11) ?hd (cs := #[.int .i64 0, .bool false, .string (⟨#[]⟩ : ByteArray)]) (t := 68) ?hr ?_; (case hd => rfl); (case hg => rfl); (case hr => first | (go_simp; done) | (go_simp; rfl)); intro gb171 hg w39 hbox hb; have n0_ := Aside0.mk (Kd.R_below (Kd.R_elderB (by (with_reducible repeat (first | apply Kd.R_alloc | apply Kd.R_drewN | apply Kd.R_drew)); exact HO_9.out) gb171 (Nat.le_of_eq hg.symm)) hb); have n1_ := Aside0.mk (blk_below (g := gb157) (o := .cells #[.int .i64 a0_0, .int .i64 a0_1, .int .i64 a0_2, .string a0_3, .bool a0_4] 59 (0, 0)) (by (with_reducible repeat (first | refine blk_drewN ?_ _ | refine blk_drew ?_ | refine blk_alloc ?_ _)); exact BK157.out) hb); have n2_ := Aside0.mk (blk_below (g := gb163) (o := .cells #[.int .i64 t158, .int .i64 t159, .int .i64 t160, .string t161, .bool t162] 59 (0, 0)) (by (with_reducible repeat (first | refine blk_drewN ?_ _ | refine blk_drew ?_ | refine blk_alloc ?_ _)); exact BK163.out) hb); have n3_ := Aside0.mk (below_step (by repeat (first | (with_reducible first | exact HB.out | apply below_alloc | apply pw_below_drewN | apply below_drew1 | refine below_set ?_ GE157.out | refine below_set ?_ GE163.out) | exact HB.out)) hb); have n4_ := Aside0.mk (hbox); have n5_ := Aside0.mk ((by rw [hg]; exact (below_size (by repeat (first | (with_reducible first | exact HB.out | apply below_alloc | apply pw_below_drewN | apply below_drew1 | refine below_set ?_ GE157.out | refine below_set ?_ GE163.out) | exact HB.out))) : w.heap.size ≤ gb171)); have n6_ := Aside0.mk ((by rw [hg]; exact (below_size (by repeat (first | (with_reducible first | exact HB.out | apply below_alloc | apply pw_below_drewN | apply below_drew1 | refine below_set ?_ GE157.out | refine below_set ?_ GE163.out) | exact HB.out))) : w.heap.size ≤ gb171)); have n7_ := Aside0.mk ((by rw [hg]; exact Nat.ne_of_lt (blk_lt (g := gb157) (o := .cells #[.int .i64 a0_0, .int .i64 a0_1, .int .i64 a0_2, .string a0_3, .bool a0_4] 59 (0, 0)) (by (with_reducible repeat (first | refine blk_drewN ?_ _ | refine blk_drew ?_ | refine blk_alloc ?_ _)); exact BK157.out)) : gb157 ≠ gb171)); have n8_ := Aside0.mk ((by rw [hg]; exact Nat.ne_of_gt (blk_lt (g := gb157) (o := .cells #[.int .i64 a0_0, .int .i64 a0_1, .int .i64 a0_2, .string a0_3, .bool a0_4] 59 (0, 0)) (by (with_reducible repeat (first | refine blk_drewN ?_ _ | refine blk_drew ?_ | refine blk_alloc ?_ _)); exact BK157.out)) : gb171 ≠ gb157)); have n9_ := Aside0.mk ((by rw [hg]; exact Nat.ne_of_lt (blk_lt (g := gb163) (o := .cells #[.int .i64 t158, .int .i64 t159, .int .i64 t160, .string t161, .bool t162] 59 (0, 0)) (by (with_reducible repeat (first | refine blk_drewN ?_ _ | refine blk_drew ?_ | refine blk_alloc ?_ _)); exact BK163.out)) : gb163 ≠ gb171)); have n10_ := Aside0.mk ((by rw [hg]; exact Nat.ne_of_gt (blk_lt (g := gb163) (o := .cells #[.int .i64 t158, .int .i64 t159, .int .i64 t160, .string t161, .bool t162] 59 (0, 0)) (by (with_reducible repeat (first | refine blk_drewN ?_ _ | refine blk_drew ?_ | refine blk_alloc ?_ _)); exact BK163.out)) : gb171 ≠ gb163)); clear HO_9; clear BK157; clear BK163; clear HB; have HO_9 := n0_; have BK157 := n1_; have BK163 := n2_; have HB := n3_; have BK171 := n4_; have GW171 := n5_; have GE171 := n6_; have NB157_171 := n7_; have NB171_157 := n8_; have NB163_171 := n9_; have NB171_163 := n10_; clear n0_ n1_ n2_ n3_ n4_ n5_ n6_ n7_ n8_ n9_ n10_; clear hb hbox hg; have hnb40 := NB171_157.out; have hnc40 := NB157_171.out; have hnb41 := NB171_163.out; have hnc41 := NB163_171.out; have hcz42_0 : w39.cell? ⟨gb171, 0, none⟩ = some (.int .i64 0) := (blk_cell BK171.out 0).trans rfl; have hcz42_1 : w39.cell? ⟨gb171, 1, none⟩ = some (.bool false) := (blk_cell BK171.out 1).trans rfl; have hcz42_2 : w39.cell? ⟨gb171, 2, none⟩ = some (.string (⟨#[]⟩ : ByteArray)) := (blk_cell BK171.out 2).trans rfl; have hfz42_0 := blk_frozen BK171.out 0; have hfz42_1 := blk_frozen BK171.out 1; have hfz42_2 := blk_frozen BK171.out 2; have hcz43_0 : w39.cell? ⟨gb163, 0, none⟩ = some (.int .i64 t158) := (blk_cell BK163.out 0).trans rfl; have hcz43_1 : w39.cell? ⟨gb163, 1, none⟩ = some (.int .i64 t159) := (blk_cell BK163.out 1).trans rfl; have hcz43_2 : w39.cell? ⟨gb163, 2, none⟩ = some (.int .i64 t160) := (blk_cell BK163.out 2).trans rfl; have hcz43_3 : w39.cell? ⟨gb163, 3, none⟩ = some (.string t161) := (blk_cell BK163.out 3).trans rfl; have hcz43_4 : w39.cell? ⟨gb163, 4, none⟩ = some (.bool t162) := (blk_cell BK163.out 4).trans rfl; have hfz43_0 := blk_frozen BK163.out 0; have hfz43_1 := blk_frozen BK163.out 1; have hfz43_2 := blk_frozen BK163.out 2; have hfz43_3 := blk_frozen BK163.out 3; have hfz43_4 := blk_frozen BK163.out 4))
                repeat (go_quiet (first | ((with_reducible refine gate_dst (N := 11) rfl ?_); (try (refine gate_guard (by rfl) ?_; dsimp only)); refine box_event ?hg (N := 11) ?hd (cs := #[.int .i64 0, .bool false, .string (⟨#[]⟩ : ByteArray)]) (t := 68) ?hr ?_; (case hd => rfl); (case hg => rfl); (case hr => first | (go_simp; done) | (go_simp; rfl)); intro gb171 hg w39 hbox hb; have n0_ := Aside0.mk (Kd.R_below (Kd.R_elderB (by (with_reducible repeat (first | apply Kd.R_alloc | apply Kd.R_drewN | apply Kd.R_drew)); exact HO_9.out) gb171 (Nat.le_of_eq hg.symm)) hb); have n1_ := Aside0.mk (blk_below (g := gb157) (o := .cells #[.int .i64 a0_0, .int .i64 a0_1, .int .i64 a0_2, .string a0_3, .bool a0_4] 59 (0, 0)) (by (with_reducible repeat (first | refine blk_drewN ?_ _ | refine blk_drew ?_ | refine blk_alloc ?_ _)); exact BK157.out) hb); have n2_ := Aside0.mk (blk_below (g := gb163) (o := .cells #[.int .i64 t158, .int .i64 t159, .int .i64 t160, .string t161, .bool t162] 59 (0, 0)) (by (with_reducible repeat (first | refine blk_drewN ?_ _ | refine blk_drew ?_ | refine blk_alloc ?_ _)); exact BK163.out) hb); have n3_ := Aside0.mk (below_step (by repeat (first | (with_reducible first | exact HB.out | apply below_alloc | apply pw_below_drewN | apply below_drew1 | refine below_set ?_ GE157.out | refine below_set ?_ GE163.out) | exact HB.out)) hb); have n4_ := Aside0.mk (hbox); have n5_ := Aside0.mk ((by rw [hg]; exact (below_size (by repeat (first | (with_reducible first | exact HB.out | apply below_alloc | apply pw_below_drewN | apply below_drew1 | refine below_set ?_ GE157.out | refine below_set ?_ GE163.out) | exact HB.out))) : w.heap.size ≤ gb171)); have n6_ := Aside0.mk ((by rw [hg]; exact (below_size (by repeat (first | (with_reducible first | exact HB.out | apply below_alloc | apply pw_below_drewN | apply below_drew1 | refine below_set ?_ GE157.out | refine below_set ?_ GE163.out) | exact HB.out))) : w.heap.size ≤ gb171)); have n7_ := Aside0.mk ((by rw [hg]; exact Nat.ne_of_lt (blk_lt (g := gb157) (o := .cells #[.int .i64 a0_0, .int .i64 a0_1, .int .i64 a0_2, .string a0_3, .bool a0_4] 59 (0, 0)) (by (with_reducible repeat (first | refine blk_drewN ?_ _ | refine blk_drew ?_ | refine blk_alloc ?_ _)); exact BK157.out)) : gb157 ≠ gb171)); have n8_ := Aside0.mk ((by rw [hg]; exact Nat.ne_of_gt (blk_lt (g := gb157) (o := .cells #[.int .i64 a0_0, .int .i64 a0_1, .int .i64 a0_2, .string a0_3, .bool a0_4] 59 (0, 0)) (by (with_reducible repeat (first | refine blk_drewN ?_ _ | refine blk_drew ?_ | refine blk_alloc ?_ _)); exact BK157.out)) : gb171 ≠ gb157)); have n9_ := Aside0.mk ((by rw [hg]; exact Nat.ne_of_lt (blk_lt (g := gb163) (o := .cells #[.int .i64 t158, .int .i64 t159, .int .i64 t160, .string t161, .bool t162] 59 (0, 0)) (by (with_reducible repeat (first | refine blk_drewN ?_ _ | refine blk_drew ?_ | refine blk_alloc ?_ _)); exact BK163.out)) : gb163 ≠ gb171)); have n10_ := Aside0.mk ((by rw [hg]; exact Nat.ne_of_gt (blk_lt (g := gb163) (o := .cells #[.int .i64 t158, .int .i64 t159, .int .i64 t160, .string t161, .bool t162] 59 (0, 0)) (by (with_reducible repeat (first | refine blk_drewN ?_ _ | refine blk_drew ?_ | refine blk_alloc ?_ _)); exact BK163.out)) : gb171 ≠ gb163)); clear HO_9; clear BK157; clear BK163; clear HB; have HO_9 := n0_; have BK157 := n1_; have BK163 := n2_; have HB := n3_; have BK171 := n4_; have GW171 := n5_; have GE171 := n6_; have NB157_171 := n7_; have NB171_157 := n8_; have NB163_171 := n9_; have NB171_163 := n10_; clear n0_ n1_ n2_ n3_ n4_ n5_ n6_ n7_ n8_ n9_ n10_; clear hb hbox hg; have hnb40 := NB171_157.out; have hnc40 := NB157_171.out; have hnb41 := NB171_163.out; have hnc41 := NB163_171.out; have hcz42_0 : w39.cell? ⟨gb171, 0, none⟩ = some (.int .i64 0) := (blk_cell BK171.out 0).trans rfl; have hcz42_1 : w39.cell? ⟨gb171, 1, none⟩ = some (.bool false) := (blk_cell BK171.out 1).trans rfl; have hcz42_2 : w39.cell? ⟨gb171, 2, none⟩ = some (.string (⟨#[]⟩ : ByteArray)) := (blk_cell BK171.out 2).trans rfl; have hfz42_0 := blk_frozen BK171.out 0; have hfz42_1 := blk_frozen BK171.out 1; have hfz42_2 := blk_frozen BK171.out 2; have hcz43_0 : w39.cell? ⟨gb163, 0, none⟩ = some (.int .i64 t158) := (blk_cell BK163.out 0).trans rfl; have hcz43_1 : w39.cell? ⟨gb163, 1, none⟩ = some (.int .i64 t159) := (blk_cell BK163.out 1).trans rfl; have hcz43_2 : w39.cell? ⟨gb163, 2, none⟩ = some (.int .i64 t160) := (blk_cell BK163.out 2).trans rfl; have hcz43_3 : w39.cell? ⟨gb163, 3, none⟩ = some (.string t161) := (blk_cell BK163.out 3).trans rfl; have hcz43_4 : w39.cell? ⟨gb163, 4, none⟩ = some (.bool t162) := (blk_cell BK163.out 4).trans rfl; have hfz43_0 := blk_frozen BK163.out 0; have hfz43_1 := blk_frozen BK163.out 1; have hfz43_2 := blk_frozen BK163.out 2; have hfz43_3 := blk_frozen BK163.out 3; have hfz43_4 := blk_frozen BK163.out 4)); go_upto_if 60 with (first | ((with_reducible refine gate_dst (N := 11) rfl ?_); (try (refine gate_guard (by rfl) ?_; dsimp only)); refine box_event ?hg (N := 11) ?hd (cs := #[.int .i64 0, .bool false, .string (⟨#[]⟩ : ByteArray)]) (t := 68) ?hr ?_; (case hd => rfl); (case hg => rfl); (case hr => first | (go_simp; done) | (go_simp; rfl)); intro gb171 hg w39 hbox hb; have n0_ := Aside0.mk (Kd.R_below (Kd.R_elderB (by (with_reducible repeat (first | apply Kd.R_alloc | apply Kd.R_drewN | apply Kd.R_drew)); exact HO_9.out) gb171 (Nat.le_of_eq hg.symm)) hb); have n1_ := Aside0.mk (blk_below (g := gb157) (o := .cells #[.int .i64 a0_0, .int .i64 a0_1, .int .i64 a0_2, .string a0_3, .bool a0_4] 59 (0, 0)) (by (with_reducible repeat (first | refine blk_drewN ?_ _ | refine blk_drew ?_ | refine blk_alloc ?_ _)); exact BK157.out) hb); have n2_ := Aside0.mk (blk_below (g := gb163) (o := .cells #[.int .i64 t158, .int .i64 t159, .int .i64 t160, .string t161, .bool t162] 59 (0, 0)) (by (with_reducible repeat (first | refine blk_drewN ?_ _ | refine blk_drew ?_ | refine blk_alloc ?_ _)); exact BK163.out) hb); have n3_ := Aside0.mk (below_step (by repeat (first | (with_reducible first | exact HB.out | apply below_alloc | apply pw_below_drewN | apply below_drew1 | refine below_set ?_ GE157.out | refine below_set ?_ GE163.out) | exact HB.out)) hb); have n4_ := Aside0.mk (hbox); have n5_ := Aside0.mk ((by rw [hg]; exact (below_size (by repeat (first | (with_reducible first | exact HB.out | apply below_alloc | apply pw_below_drewN | apply below_drew1 | refine below_set ?_ GE157.out | refine below_set ?_ GE163.out) | exact HB.out))) : w.heap.size ≤ gb171)); have n6_ := Aside0.mk ((by rw [hg]; exact (below_size (by repeat (first | (with_reducible first | exact HB.out | apply below_alloc | apply pw_below_drewN | apply below_drew1 | refine below_set ?_ GE157.out | refine below_set ?_ GE163.out) | exact HB.out))) : w.heap.size ≤ gb171)); have n7_ := Aside0.mk ((by rw [hg]; exact Nat.ne_of_lt (blk_lt (g := gb157) (o := .cells #[.int .i64 a0_0, .int .i64 a0_1, .int .i64 a0_2, .string a0_3, .bool a0_4] 59 (0, 0)) (by (with_reducible repeat (first | refine blk_drewN ?_ _ | refine blk_drew ?_ | refine blk_alloc ?_ _)); exact BK157.out)) : gb157 ≠ gb171)); have n8_ := Aside0.mk ((by rw [hg]; exact Nat.ne_of_gt (blk_lt (g := gb157) (o := .cells #[.int .i64 a0_0, .int .i64 a0_1, .int .i64 a0_2, .string a0_3, .bool a0_4] 59 (0, 0)) (by (with_reducible repeat (first | refine blk_drewN ?_ _ | refine blk_drew ?_ | refine blk_alloc ?_ _)); exact BK157.out)) : gb171 ≠ gb157)); have n9_ := Aside0.mk ((by rw [hg]; exact Nat.ne_of_lt (blk_lt (g := gb163) (o := .cells #[.int .i64 t158, .int .i64 t159, .int .i64 t160, .string t161, .bool t162] 59 (0, 0)) (by (with_reducible repeat (first | refine blk_drewN ?_ _ | refine blk_drew ?_ | refine blk_alloc ?_ _)); exact BK163.out)) : gb163 ≠ gb171)); have n10_ := Aside0.mk ((by rw [hg]; exact Nat.ne_of_gt (blk_lt (g := gb163) (o := .cells #[.int .i64 t158, .int .i64 t159, .int .i64 t160, .string t161, .bool t162] 59 (0, 0)) (by (with_reducible repeat (first | refine blk_drewN ?_ _ | refine blk_drew ?_ | refine blk_alloc ?_ _)); exact BK163.out)) : gb171 ≠ gb163)); clear HO_9; clear BK157; clear BK163; clear HB; have HO_9 := n0_; have BK157 := n1_; have BK163 := n2_; have HB := n3_; have BK171 := n4_; have GW171 := n5_; have GE171 := n6_; have NB157_171 := n7_; have NB171_157 := n8_; have NB163_171 := n9_; have NB171_163 := n10_; clear n0_ n1_ n2_ n3_ n4_ n5_ n6_ n7_ n8_ n9_ n10_; clear hb hbox hg; have hnb40 := NB171_157.out; have hnc40 := NB157_171.out; have hnb41 := NB171_163.out; have hnc41 := NB163_171.out; have hcz42_0 : w39.cell? ⟨gb171, 0, none⟩ = some (.int .i64 0) := (blk_cell BK171.out 0).trans rfl; have hcz42_1 : w39.cell? ⟨gb171, 1, none⟩ = some (.bool false) := (blk_cell BK171.out 1).trans rfl; have hcz42_2 : w39.cell? ⟨gb171, 2, none⟩ = some (.string (⟨#[]⟩ : ByteArray)) := (blk_cell BK171.out 2).trans rfl; have hfz42_0 := blk_frozen BK171.out 0; have hfz42_1 := blk_frozen BK171.out 1; have hfz42_2 := blk_frozen BK171.out 2; have hcz43_0 : w39.cell? ⟨gb163, 0, none⟩ = some (.int .i64 t158) := (blk_cell BK163.out 0).trans rfl; have hcz43_1 : w39.cell? ⟨gb163, 1, none⟩ = some (.int .i64 t159) := (blk_cell BK163.out 1).trans rfl; have hcz43_2 : w39.cell? ⟨gb163, 2, none⟩ = some (.int .i64 t160) := (blk_cell BK163.out 2).trans rfl; have hcz43_3 : w39.cell? ⟨gb163, 3, none⟩ = some (.string t161) := (blk_cell BK163.out 3).trans rfl; have hcz43_4 : w39.cell? ⟨gb163, 4, none⟩ = some (.bool t162) := (blk_cell BK163.out 4).trans rfl; have hfz43_0 := blk_frozen BK163.out 0; have hfz43_1 := blk_frozen BK163.out 1; have hfz43_2 := blk_frozen BK163.out 2; have hfz43_3 := blk_frozen BK163.out 3; have hfz43_4 := blk_frozen BK163.out 4)))
                (try simp only [Act.put, List.setIfInBounds_toArray, List.set_cons_zero, List.set_cons_succ])
                go_cut [] (fun wc => ∃ (kq : Nat) (x172002_35 : ByteArray), Aside0 (tarnlaw28_NeedParts.j2 kq (wrap64 ((Go.bits .and .i64 a1 63) + 1)) t164 x10_2 t158 t159 t160 t161 t162 (wrap64 ((wrap64 (Int.tdiv t159 32)) + x10_2)) (t158 != 0) x172002_35 = some r) ∧ Aside0 (kq ≤ k2) ∧ Aside0 (Kd.R k68 68 wc w.heap.size (fun k_ => k_ ≠ gb171) (.slice Ao31 t164.length co31) t164) ∧ Aside0 (wc.heap[gb157]? = some (.cells #[.int .i64 a0_0, .int .i64 a0_1, .int .i64 a0_2, .string a0_3, .bool a0_4] 59 (0, 0))) ∧ Aside0 (wc.heap[gb163]? = some (.cells #[.int .i64 t158, .int .i64 t159, .int .i64 t160, .string t161, .bool t162] 59 (0, 0))) ∧ Aside0 (wc.heap[gb171]? = some (.cells #[.int .i64 (wrap64 ((wrap64 (Int.tdiv t159 32)) + x10_2)), .bool (t158 != 0), .string x172002_35] 68 (0, 0))) ∧ Aside0 (Below w.heap.size w wc))
                case first =>
                  have H := HC36.out
                  clear HC36
                  by_cases c44 : t158 = 2
                  · rw [if_pos c44] at H
                    have c44b0 : (t158 == 2) = true := beq_iff_eq.mpr c44
                    have c44b1 : (t158 != 2) = false := bne_eq_false_iff_eq.mpr c44
                    clear c44
                    (first | rw [c44b0] | (simp only [i64_w, i32_w]; rw [c44b0]) | rw [c44b1] | skip)
                    replace H := Option.bind_eq_some_iff.mp H
                    obtain ⟨t172, A450, H⟩ := H
                    replace H : (tarnlaw28_NeedParts.j2 k2 (wrap64 ((Go.bits .and .i64 a1 63) + 1)) t164 x10_2 t158 t159 t160 t161 t162 (wrap64 ((wrap64 (Int.tdiv t159 32)) + x10_2)) (t158 != 0) t172) = some r := H
                    have A45 := Aside0.mk A450
                    clear A450
                    have H' := Aside0.mk H
                    clear H
                    go_wp2_with (first | (go_at_call 32; (with_reducible refine (tarnref08_Zeros.calls  t172 _ A45.out).mono ?_); rintro e w' ⟨rfl, ⟨nd, rfl⟩⟩; (try first | exact ⟨rfl, _, World.drewN_drewN _ _ _⟩ | exact ⟨rfl, _, Eq.trans (World.drewN_drewN _ _ _) (congrArg (World.drewN _) (Nat.add_assoc _ _ _))⟩); have hnb46 := NB171_157.out; have hnc46 := NB157_171.out; have hnb47 := NB171_163.out; have hnc47 := NB163_171.out; have hcz48_0 : w39.cell? ⟨gb171, 0, none⟩ = some (.int .i64 0) := (blk_cell BK171.out 0).trans rfl; have hcz48_1 : w39.cell? ⟨gb171, 1, none⟩ = some (.bool false) := (blk_cell BK171.out 1).trans rfl; have hcz48_2 : w39.cell? ⟨gb171, 2, none⟩ = some (.string (⟨#[]⟩ : ByteArray)) := (blk_cell BK171.out 2).trans rfl; have hfz48_0 := blk_frozen BK171.out 0; have hfz48_1 := blk_frozen BK171.out 1; have hfz48_2 := blk_frozen BK171.out 2))
                    repeat (go_quiet (first | (go_at_call 32; (with_reducible refine (tarnref08_Zeros.calls  t172 _ A45.out).mono ?_); rintro e w' ⟨rfl, ⟨nd, rfl⟩⟩; (try first | exact ⟨rfl, _, World.drewN_drewN _ _ _⟩ | exact ⟨rfl, _, Eq.trans (World.drewN_drewN _ _ _) (congrArg (World.drewN _) (Nat.add_assoc _ _ _))⟩); have hnb46 := NB171_157.out; have hnc46 := NB157_171.out; have hnb47 := NB171_163.out; have hnc47 := NB163_171.out; have hcz48_0 : w39.cell? ⟨gb171, 0, none⟩ = some (.int .i64 0) := (blk_cell BK171.out 0).trans rfl; have hcz48_1 : w39.cell? ⟨gb171, 1, none⟩ = some (.bool false) := (blk_cell BK171.out 1).trans rfl; have hcz48_2 : w39.cell? ⟨gb171, 2, none⟩ = some (.string (⟨#[]⟩ : ByteArray)) := (blk_cell BK171.out 2).trans rfl; have hfz48_0 := blk_frozen BK171.out 0; have hfz48_1 := blk_frozen BK171.out 1; have hfz48_2 := blk_frozen BK171.out 2)); try go_wp2_with (first | (go_at_call 32; (with_reducible refine (tarnref08_Zeros.calls  t172 _ A45.out).mono ?_); rintro e w' ⟨rfl, ⟨nd, rfl⟩⟩; (try first | exact ⟨rfl, _, World.drewN_drewN _ _ _⟩ | exact ⟨rfl, _, Eq.trans (World.drewN_drewN _ _ _) (congrArg (World.drewN _) (Nat.add_assoc _ _ _))⟩); have hnb46 := NB171_157.out; have hnc46 := NB157_171.out; have hnb47 := NB171_163.out; have hnc47 := NB163_171.out; have hcz48_0 : w39.cell? ⟨gb171, 0, none⟩ = some (.int .i64 0) := (blk_cell BK171.out 0).trans rfl; have hcz48_1 : w39.cell? ⟨gb171, 1, none⟩ = some (.bool false) := (blk_cell BK171.out 1).trans rfl; have hcz48_2 : w39.cell? ⟨gb171, 2, none⟩ = some (.string (⟨#[]⟩ : ByteArray)) := (blk_cell BK171.out 2).trans rfl; have hfz48_0 := blk_frozen BK171.out 0; have hfz48_1 := blk_frozen BK171.out 1; have hfz48_2 := blk_frozen BK171.out 2)))
                    go_meet
                    case rel => exact ⟨_, (t172), H', ⟨by have := HJ5.out; have := HK2.out; first | omega | exact Nat.le_refl _⟩, ⟨by (with_reducible repeat (first | apply Kd.R_alloc | apply Kd.R_drewN | apply Kd.R_drew)); exact Kd.R_mono (Kd.R_far (p := ⟨gb171, 2, none⟩) (Kd.R_far (p := ⟨gb171, 2, none⟩) (Kd.R_far (p := ⟨gb171, 1, none⟩) (Kd.R_far (p := ⟨gb171, 0, none⟩) (Kd.R_mono HO_9.out (fun k_ hk => (⟨hk, hk.2⟩ : _ ∧ k_ ≠ gb171))) (fun _ hk => hk.2) (.int .i64 (wrap64 ((wrap64 (Int.tdiv t159 32)) + x10_2)))) (fun _ hk => hk.2) (.bool (t158 != 0))) (fun _ hk => hk.2) (.string (⟨#[]⟩ : ByteArray))) (fun _ hk => hk.2) (.string t172)) (fun _ hk => hk.1.2)⟩, ⟨by (with_reducible repeat (first | refine blk_drewN ?_ _ | refine blk_drew ?_ | refine blk_alloc ?_ _)); refine blk_far ?_ NB157_171.out _; (with_reducible repeat (first | refine blk_drewN ?_ _ | refine blk_drew ?_ | refine blk_alloc ?_ _)); refine blk_far ?_ NB157_171.out _; (with_reducible repeat (first | refine blk_drewN ?_ _ | refine blk_drew ?_ | refine blk_alloc ?_ _)); refine blk_far ?_ NB157_171.out _; (with_reducible repeat (first | refine blk_drewN ?_ _ | refine blk_drew ?_ | refine blk_alloc ?_ _)); refine blk_far ?_ NB157_171.out _; (with_reducible repeat (first | refine blk_drewN ?_ _ | refine blk_drew ?_ | refine blk_alloc ?_ _)); exact BK157.out⟩, ⟨by (with_reducible repeat (first | refine blk_drewN ?_ _ | refine blk_drew ?_ | refine blk_alloc ?_ _)); refine blk_far ?_ NB163_171.out _; (with_reducible repeat (first | refine blk_drewN ?_ _ | refine blk_drew ?_ | refine blk_alloc ?_ _)); refine blk_far ?_ NB163_171.out _; (with_reducible repeat (first | refine blk_drewN ?_ _ | refine blk_drew ?_ | refine blk_alloc ?_ _)); refine blk_far ?_ NB163_171.out _; (with_reducible repeat (first | refine blk_drewN ?_ _ | refine blk_drew ?_ | refine blk_alloc ?_ _)); refine blk_far ?_ NB163_171.out _; (with_reducible repeat (first | refine blk_drewN ?_ _ | refine blk_drew ?_ | refine blk_alloc ?_ _)); exact BK163.out⟩, ⟨by (with_reducible repeat (first | refine blk_drewN ?_ _ | refine blk_drew ?_ | refine blk_alloc ?_ _)); refine blk_put (cs := #[.int .i64 (wrap64 ((wrap64 (Int.tdiv t159 32)) + x10_2)), .bool (t158 != 0), .string (⟨#[]⟩ : ByteArray)]) ?_ 2 _ rfl; (with_reducible repeat (first | refine blk_drewN ?_ _ | refine blk_drew ?_ | refine blk_alloc ?_ _)); refine blk_put (cs := #[.int .i64 (wrap64 ((wrap64 (Int.tdiv t159 32)) + x10_2)), .bool (t158 != 0), .string (⟨#[]⟩ : ByteArray)]) ?_ 2 _ rfl; (with_reducible repeat (first | refine blk_drewN ?_ _ | refine blk_drew ?_ | refine blk_alloc ?_ _)); refine blk_put (cs := #[.int .i64 (wrap64 ((wrap64 (Int.tdiv t159 32)) + x10_2)), .bool false, .string (⟨#[]⟩ : ByteArray)]) ?_ 1 _ rfl; (with_reducible repeat (first | refine blk_drewN ?_ _ | refine blk_drew ?_ | refine blk_alloc ?_ _)); refine blk_put (cs := #[.int .i64 0, .bool false, .string (⟨#[]⟩ : ByteArray)]) ?_ 0 _ rfl; (with_reducible repeat (first | refine blk_drewN ?_ _ | refine blk_drew ?_ | refine blk_alloc ?_ _)); exact BK171.out⟩, ⟨by repeat (first | (with_reducible first | exact HB.out | apply below_alloc | apply pw_below_drewN | apply below_drew1 | refine below_set ?_ GE157.out | refine below_set ?_ GE163.out | refine below_set ?_ GE171.out) | exact HB.out)⟩⟩
                  · rw [if_neg c44] at H
                    have c44b0 : (t158 == 2) = false := beq_eq_false_iff_ne.mpr c44
                    have c44b1 : (t158 != 2) = true := bne_iff_ne.mpr c44
                    (first | rw [c44b0] | (simp only [i64_w, i32_w]; rw [c44b0]) | rw [c44b1] | skip)
                    have H' := Aside0.mk H
                    clear H
                    go_wp2
                    repeat (go_quiet (fail); try go_wp2)
                    go_meet
                    case rel => exact ⟨_, ((⟨#[]⟩ : ByteArray)), H', ⟨by have := HJ5.out; have := HK2.out; first | omega | exact Nat.le_refl _⟩, ⟨by (with_reducible repeat (first | apply Kd.R_alloc | apply Kd.R_drewN | apply Kd.R_drew)); exact Kd.R_mono (Kd.R_far (p := ⟨gb171, 2, none⟩) (Kd.R_far (p := ⟨gb171, 1, none⟩) (Kd.R_far (p := ⟨gb171, 0, none⟩) (Kd.R_mono HO_9.out (fun k_ hk => (⟨hk, hk.2⟩ : _ ∧ k_ ≠ gb171))) (fun _ hk => hk.2) (.int .i64 (wrap64 ((wrap64 (Int.tdiv t159 32)) + x10_2)))) (fun _ hk => hk.2) (.bool (t158 != 0))) (fun _ hk => hk.2) (.string (⟨#[]⟩ : ByteArray))) (fun _ hk => hk.1.2)⟩, ⟨by (with_reducible repeat (first | refine blk_drewN ?_ _ | refine blk_drew ?_ | refine blk_alloc ?_ _)); refine blk_far ?_ NB157_171.out _; (with_reducible repeat (first | refine blk_drewN ?_ _ | refine blk_drew ?_ | refine blk_alloc ?_ _)); refine blk_far ?_ NB157_171.out _; (with_reducible repeat (first | refine blk_drewN ?_ _ | refine blk_drew ?_ | refine blk_alloc ?_ _)); refine blk_far ?_ NB157_171.out _; (with_reducible repeat (first | refine blk_drewN ?_ _ | refine blk_drew ?_ | refine blk_alloc ?_ _)); exact BK157.out⟩, ⟨by (with_reducible repeat (first | refine blk_drewN ?_ _ | refine blk_drew ?_ | refine blk_alloc ?_ _)); refine blk_far ?_ NB163_171.out _; (with_reducible repeat (first | refine blk_drewN ?_ _ | refine blk_drew ?_ | refine blk_alloc ?_ _)); refine blk_far ?_ NB163_171.out _; (with_reducible repeat (first | refine blk_drewN ?_ _ | refine blk_drew ?_ | refine blk_alloc ?_ _)); refine blk_far ?_ NB163_171.out _; (with_reducible repeat (first | refine blk_drewN ?_ _ | refine blk_drew ?_ | refine blk_alloc ?_ _)); exact BK163.out⟩, ⟨by (with_reducible repeat (first | refine blk_drewN ?_ _ | refine blk_drew ?_ | refine blk_alloc ?_ _)); refine blk_put (cs := #[.int .i64 (wrap64 ((wrap64 (Int.tdiv t159 32)) + x10_2)), .bool (t158 != 0), .string (⟨#[]⟩ : ByteArray)]) ?_ 2 _ rfl; (with_reducible repeat (first | refine blk_drewN ?_ _ | refine blk_drew ?_ | refine blk_alloc ?_ _)); refine blk_put (cs := #[.int .i64 (wrap64 ((wrap64 (Int.tdiv t159 32)) + x10_2)), .bool false, .string (⟨#[]⟩ : ByteArray)]) ?_ 1 _ rfl; (with_reducible repeat (first | refine blk_drewN ?_ _ | refine blk_drew ?_ | refine blk_alloc ?_ _)); refine blk_put (cs := #[.int .i64 0, .bool false, .string (⟨#[]⟩ : ByteArray)]) ?_ 0 _ rfl; (with_reducible repeat (first | refine blk_drewN ?_ _ | refine blk_drew ?_ | refine blk_alloc ?_ _)); exact BK171.out⟩, ⟨by repeat (first | (with_reducible first | exact HB.out | apply below_alloc | apply pw_below_drewN | apply below_drew1 | refine below_set ?_ GE157.out | refine below_set ?_ GE163.out | refine below_set ?_ GE171.out) | exact HB.out)⟩⟩
                case rest =>
                  clear HC36
                  try clear c1
                  try clear c2
                  try clear p2
                  try clear c3
                  try clear c4
                  try clear c6
                  try clear p6
                  try clear c11
                  try clear c15
                  try clear c15b0
                  try clear c15b1
                  try clear c16
                  try clear c20
                  try clear c23
                  try clear c25
                  try clear c30
                  try clear c30b0
                  try clear c30b1
                  try clear c32
                  try clear c35
                  try clear c35b0
                  try clear c37
                  try clear c40
                  try clear c41
                  try clear c44
                  try clear c44b0
                  try clear c44b1
                  try clear c46
                  try clear c47
                  try clear hcz12_0
                  try clear hcz12_1
                  try clear hcz12_2
                  try clear hcz12_3
                  try clear hcz12_4
                  try clear hcz17_0
                  try clear hcz17_1
                  try clear hcz17_2
                  try clear hcz17_3
                  try clear hcz17_4
                  try clear hcz19_0
                  try clear hcz19_1
                  try clear hcz19_2
                  try clear hcz19_3
                  try clear hcz19_4
                  try clear hcz21_0
                  try clear hcz21_1
                  try clear hcz21_2
                  try clear hcz21_3
                  try clear hcz21_4
                  try clear hcz33_0
                  try clear hcz33_1
                  try clear hcz33_2
                  try clear hcz33_3
                  try clear hcz33_4
                  try clear hcz38_0
                  try clear hcz38_1
                  try clear hcz38_2
                  try clear hcz38_3
                  try clear hcz38_4
                  try clear hcz42_0
                  try clear hcz42_1
                  try clear hcz42_2
                  try clear hcz43_0
                  try clear hcz43_1
                  try clear hcz43_2
                  try clear hcz43_3
                  try clear hcz43_4
                  try clear hcz48_0
                  try clear hcz48_1
                  try clear hcz48_2
                  try clear hcz8_0
                  try clear hcz8_1
                  try clear hcz8_2
                  try clear hcz8_3
                  try clear hcz8_4
                  try clear hfz12_0
                  try clear hfz12_1
                  try clear hfz12_2
                  try clear hfz12_3
                  try clear hfz12_4
                  try clear hfz17_0
                  try clear hfz17_1
                  try clear hfz17_2
                  try clear hfz17_3
                  try clear hfz17_4
                  try clear hfz19_0
                  try clear hfz19_1
                  try clear hfz19_2
                  try clear hfz19_3
                  try clear hfz19_4
                  try clear hfz21_0
                  try clear hfz21_1
                  try clear hfz21_2
                  try clear hfz21_3
                  try clear hfz21_4
                  try clear hfz33_0
                  try clear hfz33_1
                  try clear hfz33_2
                  try clear hfz33_3
                  try clear hfz33_4
                  try clear hfz38_0
                  try clear hfz38_1
                  try clear hfz38_2
                  try clear hfz38_3
                  try clear hfz38_4
                  try clear hfz42_0
                  try clear hfz42_1
                  try clear hfz42_2
                  try clear hfz43_0
                  try clear hfz43_1
                  try clear hfz43_2
                  try clear hfz43_3
                  try clear hfz43_4
                  try clear hfz48_0
                  try clear hfz48_1
                  try clear hfz48_2
                  try clear hfz8_0
                  try clear hfz8_1
                  try clear hfz8_2
                  try clear hfz8_3
                  try clear hfz8_4
                  try clear p2
                  try clear p6
                  obtain ⟨kq, x172002_35, HA, HJ35, HO_9, BK157, BK163, BK171, HB⟩ := hcut
                  cases kq with
                  | zero => exact absurd HA.out (by simp [tarnlaw28_NeedParts.j2])
                  | succ kj35 =>
                    have H := HA.out
                    clear HA
                    simp only [tarnlaw28_NeedParts.j2] at H
                    by_cases c49 : t158 = 1
                    · rw [if_pos c49] at H
                      have c49b0 : (t158 == 1) = true := beq_iff_eq.mpr c49
                      have c49b1 : (t158 != 1) = false := bne_eq_false_iff_eq.mpr c49
                      clear c49
                      obtain ⟨ji50, hji50⟩ : ∃ j_ : Int, (wrap64 (32 * x10_2)) = j_ := ⟨_, rfl⟩
                      replace H : (if 0 ≤ (ji50) then (if (ji50) ≤ (wrap64 ((ji50) + 32)) then (if (wrap64 ((ji50) + 32)) ≤ (t161.size : Int) then (if 0 ≤ x10_2 then (if x10_2 < (t164.length : Int) then (if (!(((rd_T68 t164 x10_2).f0) == (wrap64 ((wrap64 (Int.tdiv t159 32)) + x10_2))) || (!(((rd_T68 t164 x10_2).f1) == (t158 != 0)) || (!((((rd_T68 t164 x10_2).f2).toList) == ((t161.extract ((ji50) : Int).toNat ((wrap64 ((ji50) + 32)) : Int).toNat).toList))))) = true then (some false) else (if ((rd_T68 t164 x10_2).f0) ≥ (wrap64 ((Go.bits .and .i64 a1 63) + 1)) then (some false) else (tarnlaw28_NeedParts.l0 kj35 (wrap64 ((Go.bits .and .i64 a1 63) + 1)) t164 (wrap64 (x10_2 + 1)) t158 t159 t160 t161 t162))) else (none)) else (none)) else (none)) else (none)) else (none)) = some r := by first | (rw [hji50] at H; exact H) | (simp only [hji50] at H ⊢; exact H)
                      have hji50w : (IntKind.i64.wrap (32 * x10_2)) = ji50 := (i64_w _).trans hji50
                      by_cases c51 : 0 ≤ (ji50)
                      · rw [if_pos c51] at H
                        have c51b0 := eq_true c51
                        have c51b1 : decide (0 ≤ (ji50)) = true := decide_eq_true c51
                        clear c51
                        by_cases c52 : (ji50) ≤ (wrap64 ((ji50) + 32))
                        · rw [if_pos c52] at H
                          have c52b0 := eq_true c52
                          have c52b1 : decide ((ji50) ≤ (wrap64 ((ji50) + 32))) = true := decide_eq_true c52
                          by_cases c53 : (wrap64 ((ji50) + 32)) ≤ (t161.size : Int)
                          · rw [if_pos c53] at H
                            have c53b0 := eq_true c53
                            have c53b1 : decide ((wrap64 ((ji50) + 32)) ≤ (t161.size : Int)) = true := decide_eq_true c53
                            by_cases c54 : 0 ≤ x10_2
                            · rw [if_pos c54] at H
                              have c54b0 : decide (0 ≤ x10_2) = true := decide_eq_true c54
                              clear c54
                              by_cases c55 : x10_2 < (t164.length : Int)
                              · rw [if_pos c55] at H
                                have c55b0 : decide (x10_2 < (t164.length : Int)) = true := decide_eq_true c55
                                clear c55
                                by_cases c56 : (!(((rd_T68 t164 x10_2).f0) == (wrap64 ((wrap64 (Int.tdiv t159 32)) + x10_2))) || (!(((rd_T68 t164 x10_2).f1) == (t158 != 0)) || (!((((rd_T68 t164 x10_2).f2).toList) == ((t161.extract ((ji50) : Int).toNat ((wrap64 ((ji50) + 32)) : Int).toNat).toList))))) = true
                                · rw [if_pos c56] at H
                                  have c56b0 : (!(((rd_T68 t164 x10_2).f0) == (wrap64 ((wrap64 (Int.tdiv t159 32)) + x10_2))) || (!(((rd_T68 t164 x10_2).f1) == (t158 != 0)) || (!((((rd_T68 t164 x10_2).f2).toList) == ((t161.extract ((ji50) : Int).toNat ((wrap64 ((ji50) + 32)) : Int).toNat).toList))))) = true := c56
                                  clear c56
                                  obtain rfl := Option.some.inj H
                                  have hnb57 := NB163_157.out
                                  have hnc57 := NB157_163.out
                                  have hnb58 := NB163_171.out
                                  have hnc58 := NB171_163.out
                                  have hcz59_0 : wc.cell? ⟨gb163, 0, none⟩ = some (.int .i64 t158) := (blk_cell BK163.out 0).trans rfl
                                  have hcz59_1 : wc.cell? ⟨gb163, 1, none⟩ = some (.int .i64 t159) := (blk_cell BK163.out 1).trans rfl
                                  have hcz59_2 : wc.cell? ⟨gb163, 2, none⟩ = some (.int .i64 t160) := (blk_cell BK163.out 2).trans rfl
                                  have hcz59_3 : wc.cell? ⟨gb163, 3, none⟩ = some (.string t161) := (blk_cell BK163.out 3).trans rfl
                                  have hcz59_4 : wc.cell? ⟨gb163, 4, none⟩ = some (.bool t162) := (blk_cell BK163.out 4).trans rfl
                                  have hfz59_0 := blk_frozen BK163.out 0
                                  have hfz59_1 := blk_frozen BK163.out 1
                                  have hfz59_2 := blk_frozen BK163.out 2
                                  have hfz59_3 := blk_frozen BK163.out 3
                                  have hfz59_4 := blk_frozen BK163.out 4
                                  have hnb60 := NB171_157.out
                                  have hnc60 := NB157_171.out
                                  have hcz61_0 : wc.cell? ⟨gb171, 0, none⟩ = some (.int .i64 (wrap64 ((wrap64 (Int.tdiv t159 32)) + x10_2))) := (blk_cell BK171.out 0).trans rfl
                                  have hcz61_1 : wc.cell? ⟨gb171, 1, none⟩ = some (.bool (t158 != 0)) := (blk_cell BK171.out 1).trans rfl
                                  have hcz61_2 : wc.cell? ⟨gb171, 2, none⟩ = some (.string x172002_35) := (blk_cell BK171.out 2).trans rfl
                                  have hfz61_0 := blk_frozen BK171.out 0
                                  have hfz61_1 := blk_frozen BK171.out 1
                                  have hfz61_2 := blk_frozen BK171.out 2
                                  have p173 : 0 ≤ (x10_2 : Int) := of_decide_eq_true (by first | (with_reducible assumption) | assumption)
                                  have q173 : x10_2 < (t164.length : Int) := of_decide_eq_true (by first | (with_reducible assumption) | assumption)
                                  obtain ⟨ad173, e173, hx173_0, hx173_1, hx173_2⟩ := at_T68 (Kd.R_reads' HO_9.out).2.2 x10_2 p173 q173
                                  cases e173
                                  have hn173_0 : ad173.block ≠ gb171 := Kd.own_blk (Kd.R_away HO_9.out (fun _ hk => hk))
                                  replace hx173_0 := (cell_far (p := ⟨gb171, 2, none⟩) (by first | (rw [add_block]; exact hn173_0) | (show (Addr.add _ _).block ≠ _; rw [add_block]; exact hn173_0) | exact hn173_0) (.string (t161.extract ((ji50) : Int).toNat ((wrap64 ((ji50) + 32)) : Int).toNat))).trans hx173_0
                                  replace hx173_1 := (cell_far (p := ⟨gb171, 2, none⟩) (by first | (rw [add_block]; exact hn173_0) | (show (Addr.add _ _).block ≠ _; rw [add_block]; exact hn173_0) | exact hn173_0) (.string (t161.extract ((ji50) : Int).toNat ((wrap64 ((ji50) + 32)) : Int).toNat))).trans hx173_1
                                  replace hx173_2 := (cell_far (p := ⟨gb171, 2, none⟩) (by first | (rw [add_block]; exact hn173_0) | (show (Addr.add _ _).block ≠ _; rw [add_block]; exact hn173_0) | exact hn173_0) (.string (t161.extract ((ji50) : Int).toNat ((wrap64 ((ji50) + 32)) : Int).toNat))).trans hx173_2
                                  (try have hy173_0 := fun (n_ : Nat) => (show (((wc.drewN n_).setCell ⟨gb171, 2, none⟩ (.string (t161.extract ((ji50) : Int).toNat ((wrap64 ((ji50) + 32)) : Int).toNat)))).cell? _ = some _ from hx173_0))
                                  (try have hy173_1 := fun (n_ : Nat) => (show (((wc.drewN n_).setCell ⟨gb171, 2, none⟩ (.string (t161.extract ((ji50) : Int).toNat ((wrap64 ((ji50) + 32)) : Int).toNat)))).cell? _ = some _ from hx173_1))
                                  (try have hy173_2 := fun (n_ : Nat) => (show (((wc.drewN n_).setCell ⟨gb171, 2, none⟩ (.string (t161.extract ((ji50) : Int).toNat ((wrap64 ((ji50) + 32)) : Int).toNat)))).cell? _ = some _ from hx173_2))
                                  clear hn173_0
                                  replace p173 := eq_true p173
                                  replace q173 := eq_true q173
                                  go_wp2
                                  repeat (go_quiet (fail); try go_wp2)
                                  go_ret
                                  exact ⟨by first | rfl | (simp [errW_none, errW_some] <;> rfl) | (simp only [← hji50]; first | rfl | (simp [errW_none, errW_some] <;> rfl)) | (simp [*, errW_none, errW_some] <;> rfl), by repeat (first | (with_reducible first | exact HB.out | apply below_alloc | apply pw_below_drewN | apply below_drew1 | refine below_set ?_ GE157.out | refine below_set ?_ GE163.out | refine below_set ?_ GE171.out) | exact HB.out)⟩
                                · rw [if_neg c56] at H
                                  have c56b0 : (!(((rd_T68 t164 x10_2).f0) == (wrap64 ((wrap64 (Int.tdiv t159 32)) + x10_2))) || (!(((rd_T68 t164 x10_2).f1) == (t158 != 0)) || (!((((rd_T68 t164 x10_2).f2).toList) == ((t161.extract ((ji50) : Int).toNat ((wrap64 ((ji50) + 32)) : Int).toNat).toList))))) = false := by simpa using c56
                                  clear c56
                                  by_cases c62 : ((rd_T68 t164 x10_2).f0) ≥ (wrap64 ((Go.bits .and .i64 a1 63) + 1))
                                  · rw [if_pos c62] at H
                                    have c62b0 : decide ((wrap64 ((Go.bits .and .i64 a1 63) + 1)) ≤ ((rd_T68 t164 x10_2).f0)) = true := decide_eq_true c62
                                    clear c62
                                    obtain rfl := Option.some.inj H
                                    have hnb63 := NB163_157.out
                                    have hnc63 := NB157_163.out
                                    have hnb64 := NB163_171.out
                                    have hnc64 := NB171_163.out
                                    have hcz65_0 : wc.cell? ⟨gb163, 0, none⟩ = some (.int .i64 t158) := (blk_cell BK163.out 0).trans rfl
                                    have hcz65_1 : wc.cell? ⟨gb163, 1, none⟩ = some (.int .i64 t159) := (blk_cell BK163.out 1).trans rfl
                                    have hcz65_2 : wc.cell? ⟨gb163, 2, none⟩ = some (.int .i64 t160) := (blk_cell BK163.out 2).trans rfl
                                    have hcz65_3 : wc.cell? ⟨gb163, 3, none⟩ = some (.string t161) := (blk_cell BK163.out 3).trans rfl
                                    have hcz65_4 : wc.cell? ⟨gb163, 4, none⟩ = some (.bool t162) := (blk_cell BK163.out 4).trans rfl
                                    have hfz65_0 := blk_frozen BK163.out 0
                                    have hfz65_1 := blk_frozen BK163.out 1
                                    have hfz65_2 := blk_frozen BK163.out 2
                                    have hfz65_3 := blk_frozen BK163.out 3
                                    have hfz65_4 := blk_frozen BK163.out 4
                                    have hnb66 := NB171_157.out
                                    have hnc66 := NB157_171.out
                                    have hcz67_0 : wc.cell? ⟨gb171, 0, none⟩ = some (.int .i64 (wrap64 ((wrap64 (Int.tdiv t159 32)) + x10_2))) := (blk_cell BK171.out 0).trans rfl
                                    have hcz67_1 : wc.cell? ⟨gb171, 1, none⟩ = some (.bool (t158 != 0)) := (blk_cell BK171.out 1).trans rfl
                                    have hcz67_2 : wc.cell? ⟨gb171, 2, none⟩ = some (.string x172002_35) := (blk_cell BK171.out 2).trans rfl
                                    have hfz67_0 := blk_frozen BK171.out 0
                                    have hfz67_1 := blk_frozen BK171.out 1
                                    have hfz67_2 := blk_frozen BK171.out 2
                                    have p173 : 0 ≤ (x10_2 : Int) := of_decide_eq_true (by first | (with_reducible assumption) | assumption)
                                    have q173 : x10_2 < (t164.length : Int) := of_decide_eq_true (by first | (with_reducible assumption) | assumption)
                                    obtain ⟨ad173, e173, hx173_0, hx173_1, hx173_2⟩ := at_T68 (Kd.R_reads' HO_9.out).2.2 x10_2 p173 q173
                                    cases e173
                                    have hn173_0 : ad173.block ≠ gb171 := Kd.own_blk (Kd.R_away HO_9.out (fun _ hk => hk))
                                    replace hx173_0 := (cell_far (p := ⟨gb171, 2, none⟩) (by first | (rw [add_block]; exact hn173_0) | (show (Addr.add _ _).block ≠ _; rw [add_block]; exact hn173_0) | exact hn173_0) (.string (t161.extract ((ji50) : Int).toNat ((wrap64 ((ji50) + 32)) : Int).toNat))).trans hx173_0
                                    replace hx173_1 := (cell_far (p := ⟨gb171, 2, none⟩) (by first | (rw [add_block]; exact hn173_0) | (show (Addr.add _ _).block ≠ _; rw [add_block]; exact hn173_0) | exact hn173_0) (.string (t161.extract ((ji50) : Int).toNat ((wrap64 ((ji50) + 32)) : Int).toNat))).trans hx173_1
                                    replace hx173_2 := (cell_far (p := ⟨gb171, 2, none⟩) (by first | (rw [add_block]; exact hn173_0) | (show (Addr.add _ _).block ≠ _; rw [add_block]; exact hn173_0) | exact hn173_0) (.string (t161.extract ((ji50) : Int).toNat ((wrap64 ((ji50) + 32)) : Int).toNat))).trans hx173_2
                                    (try have hy173_0 := fun (n_ : Nat) => (show (((wc.drewN n_).setCell ⟨gb171, 2, none⟩ (.string (t161.extract ((ji50) : Int).toNat ((wrap64 ((ji50) + 32)) : Int).toNat)))).cell? _ = some _ from hx173_0))
                                    (try have hy173_1 := fun (n_ : Nat) => (show (((wc.drewN n_).setCell ⟨gb171, 2, none⟩ (.string (t161.extract ((ji50) : Int).toNat ((wrap64 ((ji50) + 32)) : Int).toNat)))).cell? _ = some _ from hx173_1))
                                    (try have hy173_2 := fun (n_ : Nat) => (show (((wc.drewN n_).setCell ⟨gb171, 2, none⟩ (.string (t161.extract ((ji50) : Int).toNat ((wrap64 ((ji50) + 32)) : Int).toNat)))).cell? _ = some _ from hx173_2))
                                    clear hn173_0
                                    replace p173 := eq_true p173
                                    replace q173 := eq_true q173
                                    have p174 : 0 ≤ (x10_2 : Int) := of_decide_eq_true (by first | (with_reducible assumption) | assumption)
                                    have q174 : x10_2 < (t164.length : Int) := of_decide_eq_true (by first | (with_reducible assumption) | assumption)
                                    obtain ⟨ad174, e174, hx174_0, hx174_1, hx174_2⟩ := at_T68 (Kd.R_reads' HO_9.out).2.2 x10_2 p174 q174
                                    obtain rfl : ad173 = ad174 := (by injection e174)
                                    have hn174_0 : ad173.block ≠ gb171 := Kd.own_blk (Kd.R_away HO_9.out (fun _ hk => hk))
                                    replace hx174_0 := (cell_far (p := ⟨gb171, 2, none⟩) (by first | (rw [add_block]; exact hn174_0) | (show (Addr.add _ _).block ≠ _; rw [add_block]; exact hn174_0) | exact hn174_0) (.string (t161.extract ((ji50) : Int).toNat ((wrap64 ((ji50) + 32)) : Int).toNat))).trans hx174_0
                                    replace hx174_1 := (cell_far (p := ⟨gb171, 2, none⟩) (by first | (rw [add_block]; exact hn174_0) | (show (Addr.add _ _).block ≠ _; rw [add_block]; exact hn174_0) | exact hn174_0) (.string (t161.extract ((ji50) : Int).toNat ((wrap64 ((ji50) + 32)) : Int).toNat))).trans hx174_1
                                    replace hx174_2 := (cell_far (p := ⟨gb171, 2, none⟩) (by first | (rw [add_block]; exact hn174_0) | (show (Addr.add _ _).block ≠ _; rw [add_block]; exact hn174_0) | exact hn174_0) (.string (t161.extract ((ji50) : Int).toNat ((wrap64 ((ji50) + 32)) : Int).toNat))).trans hx174_2
                                    (try have hy174_0 := fun (n_ : Nat) => (show (((wc.drewN n_).setCell ⟨gb171, 2, none⟩ (.string (t161.extract ((ji50) : Int).toNat ((wrap64 ((ji50) + 32)) : Int).toNat)))).cell? _ = some _ from hx174_0))
                                    (try have hy174_1 := fun (n_ : Nat) => (show (((wc.drewN n_).setCell ⟨gb171, 2, none⟩ (.string (t161.extract ((ji50) : Int).toNat ((wrap64 ((ji50) + 32)) : Int).toNat)))).cell? _ = some _ from hx174_1))
                                    (try have hy174_2 := fun (n_ : Nat) => (show (((wc.drewN n_).setCell ⟨gb171, 2, none⟩ (.string (t161.extract ((ji50) : Int).toNat ((wrap64 ((ji50) + 32)) : Int).toNat)))).cell? _ = some _ from hx174_2))
                                    clear hn174_0
                                    replace p174 := eq_true p174
                                    replace q174 := eq_true q174
                                    go_wp2
                                    repeat (go_quiet (fail); try go_wp2)
                                    go_ret
                                    exact ⟨by first | rfl | (simp [errW_none, errW_some] <;> rfl) | (simp only [← hji50]; first | rfl | (simp [errW_none, errW_some] <;> rfl)) | (simp [*, errW_none, errW_some] <;> rfl), by repeat (first | (with_reducible first | exact HB.out | apply below_alloc | apply pw_below_drewN | apply below_drew1 | refine below_set ?_ GE157.out | refine below_set ?_ GE163.out | refine below_set ?_ GE171.out) | exact HB.out)⟩
                                  · rw [if_neg c62] at H
                                    have c62b0 : decide ((wrap64 ((Go.bits .and .i64 a1 63) + 1)) ≤ ((rd_T68 t164 x10_2).f0)) = false := decide_eq_false c62
                                    clear c62
                                    have H' := Aside0.mk H
                                    clear H
                                    have hnb68 := NB163_157.out
                                    have hnc68 := NB157_163.out
                                    have hnb69 := NB163_171.out
                                    have hnc69 := NB171_163.out
                                    have hcz70_0 : wc.cell? ⟨gb163, 0, none⟩ = some (.int .i64 t158) := (blk_cell BK163.out 0).trans rfl
                                    have hcz70_1 : wc.cell? ⟨gb163, 1, none⟩ = some (.int .i64 t159) := (blk_cell BK163.out 1).trans rfl
                                    have hcz70_2 : wc.cell? ⟨gb163, 2, none⟩ = some (.int .i64 t160) := (blk_cell BK163.out 2).trans rfl
                                    have hcz70_3 : wc.cell? ⟨gb163, 3, none⟩ = some (.string t161) := (blk_cell BK163.out 3).trans rfl
                                    have hcz70_4 : wc.cell? ⟨gb163, 4, none⟩ = some (.bool t162) := (blk_cell BK163.out 4).trans rfl
                                    have hfz70_0 := blk_frozen BK163.out 0
                                    have hfz70_1 := blk_frozen BK163.out 1
                                    have hfz70_2 := blk_frozen BK163.out 2
                                    have hfz70_3 := blk_frozen BK163.out 3
                                    have hfz70_4 := blk_frozen BK163.out 4
                                    have hnb71 := NB171_157.out
                                    have hnc71 := NB157_171.out
                                    have hcz72_0 : wc.cell? ⟨gb171, 0, none⟩ = some (.int .i64 (wrap64 ((wrap64 (Int.tdiv t159 32)) + x10_2))) := (blk_cell BK171.out 0).trans rfl
                                    have hcz72_1 : wc.cell? ⟨gb171, 1, none⟩ = some (.bool (t158 != 0)) := (blk_cell BK171.out 1).trans rfl
                                    have hcz72_2 : wc.cell? ⟨gb171, 2, none⟩ = some (.string x172002_35) := (blk_cell BK171.out 2).trans rfl
                                    have hfz72_0 := blk_frozen BK171.out 0
                                    have hfz72_1 := blk_frozen BK171.out 1
                                    have hfz72_2 := blk_frozen BK171.out 2
                                    have p173 : 0 ≤ (x10_2 : Int) := of_decide_eq_true (by first | (with_reducible assumption) | assumption)
                                    have q173 : x10_2 < (t164.length : Int) := of_decide_eq_true (by first | (with_reducible assumption) | assumption)
                                    obtain ⟨ad173, e173, hx173_0, hx173_1, hx173_2⟩ := at_T68 (Kd.R_reads' HO_9.out).2.2 x10_2 p173 q173
                                    cases e173
                                    have hn173_0 : ad173.block ≠ gb171 := Kd.own_blk (Kd.R_away HO_9.out (fun _ hk => hk))
                                    replace hx173_0 := (cell_far (p := ⟨gb171, 2, none⟩) (by first | (rw [add_block]; exact hn173_0) | (show (Addr.add _ _).block ≠ _; rw [add_block]; exact hn173_0) | exact hn173_0) (.string (t161.extract ((ji50) : Int).toNat ((wrap64 ((ji50) + 32)) : Int).toNat))).trans hx173_0
                                    replace hx173_1 := (cell_far (p := ⟨gb171, 2, none⟩) (by first | (rw [add_block]; exact hn173_0) | (show (Addr.add _ _).block ≠ _; rw [add_block]; exact hn173_0) | exact hn173_0) (.string (t161.extract ((ji50) : Int).toNat ((wrap64 ((ji50) + 32)) : Int).toNat))).trans hx173_1
                                    replace hx173_2 := (cell_far (p := ⟨gb171, 2, none⟩) (by first | (rw [add_block]; exact hn173_0) | (show (Addr.add _ _).block ≠ _; rw [add_block]; exact hn173_0) | exact hn173_0) (.string (t161.extract ((ji50) : Int).toNat ((wrap64 ((ji50) + 32)) : Int).toNat))).trans hx173_2
                                    (try have hy173_0 := fun (n_ : Nat) => (show (((wc.drewN n_).setCell ⟨gb171, 2, none⟩ (.string (t161.extract ((ji50) : Int).toNat ((wrap64 ((ji50) + 32)) : Int).toNat)))).cell? _ = some _ from hx173_0))
                                    (try have hy173_1 := fun (n_ : Nat) => (show (((wc.drewN n_).setCell ⟨gb171, 2, none⟩ (.string (t161.extract ((ji50) : Int).toNat ((wrap64 ((ji50) + 32)) : Int).toNat)))).cell? _ = some _ from hx173_1))
                                    (try have hy173_2 := fun (n_ : Nat) => (show (((wc.drewN n_).setCell ⟨gb171, 2, none⟩ (.string (t161.extract ((ji50) : Int).toNat ((wrap64 ((ji50) + 32)) : Int).toNat)))).cell? _ = some _ from hx173_2))
                                    clear hn173_0
                                    replace p173 := eq_true p173
                                    replace q173 := eq_true q173
                                    have p174 : 0 ≤ (x10_2 : Int) := of_decide_eq_true (by first | (with_reducible assumption) | assumption)
                                    have q174 : x10_2 < (t164.length : Int) := of_decide_eq_true (by first | (with_reducible assumption) | assumption)
                                    obtain ⟨ad174, e174, hx174_0, hx174_1, hx174_2⟩ := at_T68 (Kd.R_reads' HO_9.out).2.2 x10_2 p174 q174
                                    obtain rfl : ad173 = ad174 := (by injection e174)
                                    have hn174_0 : ad173.block ≠ gb171 := Kd.own_blk (Kd.R_away HO_9.out (fun _ hk => hk))
                                    replace hx174_0 := (cell_far (p := ⟨gb171, 2, none⟩) (by first | (rw [add_block]; exact hn174_0) | (show (Addr.add _ _).block ≠ _; rw [add_block]; exact hn174_0) | exact hn174_0) (.string (t161.extract ((ji50) : Int).toNat ((wrap64 ((ji50) + 32)) : Int).toNat))).trans hx174_0
                                    replace hx174_1 := (cell_far (p := ⟨gb171, 2, none⟩) (by first | (rw [add_block]; exact hn174_0) | (show (Addr.add _ _).block ≠ _; rw [add_block]; exact hn174_0) | exact hn174_0) (.string (t161.extract ((ji50) : Int).toNat ((wrap64 ((ji50) + 32)) : Int).toNat))).trans hx174_1
                                    replace hx174_2 := (cell_far (p := ⟨gb171, 2, none⟩) (by first | (rw [add_block]; exact hn174_0) | (show (Addr.add _ _).block ≠ _; rw [add_block]; exact hn174_0) | exact hn174_0) (.string (t161.extract ((ji50) : Int).toNat ((wrap64 ((ji50) + 32)) : Int).toNat))).trans hx174_2
                                    (try have hy174_0 := fun (n_ : Nat) => (show (((wc.drewN n_).setCell ⟨gb171, 2, none⟩ (.string (t161.extract ((ji50) : Int).toNat ((wrap64 ((ji50) + 32)) : Int).toNat)))).cell? _ = some _ from hx174_0))
                                    (try have hy174_1 := fun (n_ : Nat) => (show (((wc.drewN n_).setCell ⟨gb171, 2, none⟩ (.string (t161.extract ((ji50) : Int).toNat ((wrap64 ((ji50) + 32)) : Int).toNat)))).cell? _ = some _ from hx174_1))
                                    (try have hy174_2 := fun (n_ : Nat) => (show (((wc.drewN n_).setCell ⟨gb171, 2, none⟩ (.string (t161.extract ((ji50) : Int).toNat ((wrap64 ((ji50) + 32)) : Int).toNat)))).cell? _ = some _ from hx174_2))
                                    clear hn174_0
                                    replace p174 := eq_true p174
                                    replace q174 := eq_true q174
                                    go_wp2
                                    repeat (go_quiet (fail); try go_wp2)
                                    go_roundg kj35
                                    case measure => have := HJ5.out; have := HK2.out; have := HJ35.out; omega
                                    case rel => exact ⟨(wrap64 (x10_2 + 1)), (by first | rfl | (simp; done) | (simp [*]; done)), H', ⟨by have := HJ5.out; have := HK2.out; have := HJ35.out; omega⟩, ⟨by (with_reducible repeat (first | apply Kd.R_alloc | apply Kd.R_drewN | apply Kd.R_drew)); exact Kd.R_mono (Kd.R_far (p := ⟨gb171, 2, none⟩) (Kd.R_mono HO_9.out (fun k_ hk => (⟨hk, hk⟩ : _ ∧ k_ ≠ gb171))) (fun _ hk => hk.2) (.string (t161.extract ((ji50) : Int).toNat ((wrap64 ((ji50) + 32)) : Int).toNat))) (fun _ hk => trivial)⟩, ⟨by (with_reducible repeat (first | refine blk_drewN ?_ _ | refine blk_drew ?_ | refine blk_alloc ?_ _)); refine blk_far ?_ NB157_171.out _; (with_reducible repeat (first | refine blk_drewN ?_ _ | refine blk_drew ?_ | refine blk_alloc ?_ _)); exact BK157.out⟩, ⟨by (with_reducible repeat (first | refine blk_drewN ?_ _ | refine blk_drew ?_ | refine blk_alloc ?_ _)); refine blk_far ?_ NB163_171.out _; (with_reducible repeat (first | refine blk_drewN ?_ _ | refine blk_drew ?_ | refine blk_alloc ?_ _)); exact BK163.out⟩, ⟨by repeat (first | (with_reducible first | exact HB.out | apply below_alloc | apply pw_below_drewN | apply below_drew1 | refine below_set ?_ GE157.out | refine below_set ?_ GE163.out | refine below_set ?_ GE171.out) | exact HB.out)⟩⟩
                              · rw [if_neg c55] at H
                                exact absurd H (by simp)
                            · rw [if_neg c54] at H
                              exact absurd H (by simp)
                          · rw [if_neg c53] at H
                            exact absurd H (by simp)
                        · rw [if_neg c52] at H
                          exact absurd H (by simp)
                      · rw [if_neg c51] at H
                        exact absurd H (by simp)
                    · rw [if_neg c49] at H
                      have c49b0 : (t158 == 1) = false := beq_eq_false_iff_ne.mpr c49
                      have c49b1 : (t158 != 1) = true := bne_iff_ne.mpr c49
                      by_cases c73 : 0 ≤ x10_2
                      · rw [if_pos c73] at H
                        have c73b0 : decide (0 ≤ x10_2) = true := decide_eq_true c73
                        clear c73
                        by_cases c74 : x10_2 < (t164.length : Int)
                        · rw [if_pos c74] at H
                          have c74b0 : decide (x10_2 < (t164.length : Int)) = true := decide_eq_true c74
                          clear c74
                          by_cases c75 : (!(((rd_T68 t164 x10_2).f0) == (wrap64 ((wrap64 (Int.tdiv t159 32)) + x10_2))) || (!(((rd_T68 t164 x10_2).f1) == (t158 != 0)) || (!((((rd_T68 t164 x10_2).f2).toList) == x172002_35.toList)))) = true
                          · rw [if_pos c75] at H
                            have c75b0 : (!(((rd_T68 t164 x10_2).f0) == (wrap64 ((wrap64 (Int.tdiv t159 32)) + x10_2))) || (!(((rd_T68 t164 x10_2).f1) == (t158 != 0)) || (!((((rd_T68 t164 x10_2).f2).toList) == x172002_35.toList)))) = true := c75
                            clear c75
                            obtain rfl := Option.some.inj H
                            have hnb76 := NB163_157.out
                            have hnc76 := NB157_163.out
                            have hnb77 := NB163_171.out
                            have hnc77 := NB171_163.out
                            have hcz78_0 : wc.cell? ⟨gb163, 0, none⟩ = some (.int .i64 t158) := (blk_cell BK163.out 0).trans rfl
                            have hcz78_1 : wc.cell? ⟨gb163, 1, none⟩ = some (.int .i64 t159) := (blk_cell BK163.out 1).trans rfl
                            have hcz78_2 : wc.cell? ⟨gb163, 2, none⟩ = some (.int .i64 t160) := (blk_cell BK163.out 2).trans rfl
                            have hcz78_3 : wc.cell? ⟨gb163, 3, none⟩ = some (.string t161) := (blk_cell BK163.out 3).trans rfl
                            have hcz78_4 : wc.cell? ⟨gb163, 4, none⟩ = some (.bool t162) := (blk_cell BK163.out 4).trans rfl
                            have hfz78_0 := blk_frozen BK163.out 0
                            have hfz78_1 := blk_frozen BK163.out 1
                            have hfz78_2 := blk_frozen BK163.out 2
                            have hfz78_3 := blk_frozen BK163.out 3
                            have hfz78_4 := blk_frozen BK163.out 4
                            have p175 : 0 ≤ (x10_2 : Int) := of_decide_eq_true (by first | (with_reducible assumption) | assumption)
                            have q175 : x10_2 < (t164.length : Int) := of_decide_eq_true (by first | (with_reducible assumption) | assumption)
                            obtain ⟨ad175, e175, hx175_0, hx175_1, hx175_2⟩ := at_T68 (Kd.R_reads' HO_9.out).2.2 x10_2 p175 q175
                            cases e175
                            replace p175 := eq_true p175
                            replace q175 := eq_true q175
                            have hnb79 := NB171_157.out
                            have hnc79 := NB157_171.out
                            have hcz80_0 : wc.cell? ⟨gb171, 0, none⟩ = some (.int .i64 (wrap64 ((wrap64 (Int.tdiv t159 32)) + x10_2))) := (blk_cell BK171.out 0).trans rfl
                            have hcz80_1 : wc.cell? ⟨gb171, 1, none⟩ = some (.bool (t158 != 0)) := (blk_cell BK171.out 1).trans rfl
                            have hcz80_2 : wc.cell? ⟨gb171, 2, none⟩ = some (.string x172002_35) := (blk_cell BK171.out 2).trans rfl
                            have hfz80_0 := blk_frozen BK171.out 0
                            have hfz80_1 := blk_frozen BK171.out 1
                            have hfz80_2 := blk_frozen BK171.out 2
                            go_wp2
                            repeat (go_quiet (fail); try go_wp2)
                            go_ret
                            exact ⟨by first | rfl | (simp [errW_none, errW_some] <;> rfl) | (simp [*, errW_none, errW_some] <;> rfl), by repeat (first | (with_reducible first | exact HB.out | apply below_alloc | apply pw_below_drewN | apply below_drew1 | refine below_set ?_ GE157.out | refine below_set ?_ GE163.out | refine below_set ?_ GE171.out) | exact HB.out)⟩
                          · rw [if_neg c75] at H
                            have c75b0 : (!(((rd_T68 t164 x10_2).f0) == (wrap64 ((wrap64 (Int.tdiv t159 32)) + x10_2))) || (!(((rd_T68 t164 x10_2).f1) == (t158 != 0)) || (!((((rd_T68 t164 x10_2).f2).toList) == x172002_35.toList)))) = false := by simpa using c75
                            clear c75
                            by_cases c81 : ((rd_T68 t164 x10_2).f0) ≥ (wrap64 ((Go.bits .and .i64 a1 63) + 1))
                            · rw [if_pos c81] at H
                              have c81b0 : decide ((wrap64 ((Go.bits .and .i64 a1 63) + 1)) ≤ ((rd_T68 t164 x10_2).f0)) = true := decide_eq_true c81
                              clear c81
                              obtain rfl := Option.some.inj H
                              have hnb82 := NB163_157.out
                              have hnc82 := NB157_163.out
                              have hnb83 := NB163_171.out
                              have hnc83 := NB171_163.out
                              have hcz84_0 : wc.cell? ⟨gb163, 0, none⟩ = some (.int .i64 t158) := (blk_cell BK163.out 0).trans rfl
                              have hcz84_1 : wc.cell? ⟨gb163, 1, none⟩ = some (.int .i64 t159) := (blk_cell BK163.out 1).trans rfl
                              have hcz84_2 : wc.cell? ⟨gb163, 2, none⟩ = some (.int .i64 t160) := (blk_cell BK163.out 2).trans rfl
                              have hcz84_3 : wc.cell? ⟨gb163, 3, none⟩ = some (.string t161) := (blk_cell BK163.out 3).trans rfl
                              have hcz84_4 : wc.cell? ⟨gb163, 4, none⟩ = some (.bool t162) := (blk_cell BK163.out 4).trans rfl
                              have hfz84_0 := blk_frozen BK163.out 0
                              have hfz84_1 := blk_frozen BK163.out 1
                              have hfz84_2 := blk_frozen BK163.out 2
                              have hfz84_3 := blk_frozen BK163.out 3
                              have hfz84_4 := blk_frozen BK163.out 4
                              have p175 : 0 ≤ (x10_2 : Int) := of_decide_eq_true (by first | (with_reducible assumption) | assumption)
                              have q175 : x10_2 < (t164.length : Int) := of_decide_eq_true (by first | (with_reducible assumption) | assumption)
                              obtain ⟨ad175, e175, hx175_0, hx175_1, hx175_2⟩ := at_T68 (Kd.R_reads' HO_9.out).2.2 x10_2 p175 q175
                              cases e175
                              replace p175 := eq_true p175
                              replace q175 := eq_true q175
                              have hnb85 := NB171_157.out
                              have hnc85 := NB157_171.out
                              have hcz86_0 : wc.cell? ⟨gb171, 0, none⟩ = some (.int .i64 (wrap64 ((wrap64 (Int.tdiv t159 32)) + x10_2))) := (blk_cell BK171.out 0).trans rfl
                              have hcz86_1 : wc.cell? ⟨gb171, 1, none⟩ = some (.bool (t158 != 0)) := (blk_cell BK171.out 1).trans rfl
                              have hcz86_2 : wc.cell? ⟨gb171, 2, none⟩ = some (.string x172002_35) := (blk_cell BK171.out 2).trans rfl
                              have hfz86_0 := blk_frozen BK171.out 0
                              have hfz86_1 := blk_frozen BK171.out 1
                              have hfz86_2 := blk_frozen BK171.out 2
                              have p176 : 0 ≤ (x10_2 : Int) := of_decide_eq_true (by first | (with_reducible assumption) | assumption)
                              have q176 : x10_2 < (t164.length : Int) := of_decide_eq_true (by first | (with_reducible assumption) | assumption)
                              obtain ⟨ad176, e176, hx176_0, hx176_1, hx176_2⟩ := at_T68 (Kd.R_reads' HO_9.out).2.2 x10_2 p176 q176
                              obtain rfl : ad175 = ad176 := (by injection e176)
                              replace p176 := eq_true p176
                              replace q176 := eq_true q176
                              go_wp2
                              repeat (go_quiet (fail); try go_wp2)
                              go_ret
                              exact ⟨by first | rfl | (simp [errW_none, errW_some] <;> rfl) | (simp [*, errW_none, errW_some] <;> rfl), by repeat (first | (with_reducible first | exact HB.out | apply below_alloc | apply pw_below_drewN | apply below_drew1 | refine below_set ?_ GE157.out | refine below_set ?_ GE163.out | refine below_set ?_ GE171.out) | exact HB.out)⟩
                            · rw [if_neg c81] at H
                              have c81b0 : decide ((wrap64 ((Go.bits .and .i64 a1 63) + 1)) ≤ ((rd_T68 t164 x10_2).f0)) = false := decide_eq_false c81
                              clear c81
                              have H' := Aside0.mk H
                              clear H
                              have hnb87 := NB163_157.out
                              have hnc87 := NB157_163.out
                              have hnb88 := NB163_171.out
                              have hnc88 := NB171_163.out
                              have hcz89_0 : wc.cell? ⟨gb163, 0, none⟩ = some (.int .i64 t158) := (blk_cell BK163.out 0).trans rfl
                              have hcz89_1 : wc.cell? ⟨gb163, 1, none⟩ = some (.int .i64 t159) := (blk_cell BK163.out 1).trans rfl
                              have hcz89_2 : wc.cell? ⟨gb163, 2, none⟩ = some (.int .i64 t160) := (blk_cell BK163.out 2).trans rfl
                              have hcz89_3 : wc.cell? ⟨gb163, 3, none⟩ = some (.string t161) := (blk_cell BK163.out 3).trans rfl
                              have hcz89_4 : wc.cell? ⟨gb163, 4, none⟩ = some (.bool t162) := (blk_cell BK163.out 4).trans rfl
                              have hfz89_0 := blk_frozen BK163.out 0
                              have hfz89_1 := blk_frozen BK163.out 1
                              have hfz89_2 := blk_frozen BK163.out 2
                              have hfz89_3 := blk_frozen BK163.out 3
                              have hfz89_4 := blk_frozen BK163.out 4
                              have p175 : 0 ≤ (x10_2 : Int) := of_decide_eq_true (by first | (with_reducible assumption) | assumption)
                              have q175 : x10_2 < (t164.length : Int) := of_decide_eq_true (by first | (with_reducible assumption) | assumption)
                              obtain ⟨ad175, e175, hx175_0, hx175_1, hx175_2⟩ := at_T68 (Kd.R_reads' HO_9.out).2.2 x10_2 p175 q175
                              cases e175
                              replace p175 := eq_true p175
                              replace q175 := eq_true q175
                              have hnb90 := NB171_157.out
                              have hnc90 := NB157_171.out
                              have hcz91_0 : wc.cell? ⟨gb171, 0, none⟩ = some (.int .i64 (wrap64 ((wrap64 (Int.tdiv t159 32)) + x10_2))) := (blk_cell BK171.out 0).trans rfl
                              have hcz91_1 : wc.cell? ⟨gb171, 1, none⟩ = some (.bool (t158 != 0)) := (blk_cell BK171.out 1).trans rfl
                              have hcz91_2 : wc.cell? ⟨gb171, 2, none⟩ = some (.string x172002_35) := (blk_cell BK171.out 2).trans rfl
                              have hfz91_0 := blk_frozen BK171.out 0
                              have hfz91_1 := blk_frozen BK171.out 1
                              have hfz91_2 := blk_frozen BK171.out 2
                              have p176 : 0 ≤ (x10_2 : Int) := of_decide_eq_true (by first | (with_reducible assumption) | assumption)
                              have q176 : x10_2 < (t164.length : Int) := of_decide_eq_true (by first | (with_reducible assumption) | assumption)
                              obtain ⟨ad176, e176, hx176_0, hx176_1, hx176_2⟩ := at_T68 (Kd.R_reads' HO_9.out).2.2 x10_2 p176 q176
                              obtain rfl : ad175 = ad176 := (by injection e176)
                              replace p176 := eq_true p176
                              replace q176 := eq_true q176
                              go_wp2
                              repeat (go_quiet (fail); try go_wp2)
                              go_roundg kj35
                              case measure => have := HJ5.out; have := HK2.out; have := HJ35.out; omega
                              case rel => exact ⟨(wrap64 (x10_2 + 1)), (by first | rfl | (simp; done) | (simp [*]; done)), H', ⟨by have := HJ5.out; have := HK2.out; have := HJ35.out; omega⟩, ⟨by (with_reducible repeat (first | apply Kd.R_alloc | apply Kd.R_drewN | apply Kd.R_drew)); exact Kd.R_mono HO_9.out (fun _ hk => trivial)⟩, ⟨by (with_reducible repeat (first | refine blk_drewN ?_ _ | refine blk_drew ?_ | refine blk_alloc ?_ _)); exact BK157.out⟩, ⟨by (with_reducible repeat (first | refine blk_drewN ?_ _ | refine blk_drew ?_ | refine blk_alloc ?_ _)); exact BK163.out⟩, ⟨by repeat (first | (with_reducible first | exact HB.out | apply below_alloc | apply pw_below_drewN | apply below_drew1 | refine below_set ?_ GE157.out | refine below_set ?_ GE163.out | refine below_set ?_ GE171.out) | exact HB.out)⟩⟩
                        · rw [if_neg c74] at H
                          exact absurd H (by simp)
                      · rw [if_neg c73] at H
                        exact absurd H (by simp)
              · rw [if_neg c35] at H
                have c35b0 : decide (x10_2 < (t164.length : Int)) = false := decide_eq_false c35
                clear c35
                replace H := Option.bind_eq_some_iff.mp H
                obtain ⟨t170, A920, H⟩ := H
                replace H : (some t170) = some r := H
                have A92 := Aside0.mk A920
                clear A920
                obtain rfl := Option.some.inj H
                go_wp2_with (first | (go_at_call 29; (with_reducible refine (tarnlaw28_awake.calls k2  t170 _ A92.out).mono ?_); rintro e w93 ⟨rfl, hb⟩; have n0_ := Aside0.mk (Kd.R_below (by (with_reducible repeat (first | apply Kd.R_alloc | apply Kd.R_drewN | apply Kd.R_drew)); exact HO_9.out) hb); have n1_ := Aside0.mk (blk_below (g := gb157) (o := .cells #[.int .i64 a0_0, .int .i64 a0_1, .int .i64 a0_2, .string a0_3, .bool a0_4] 59 (0, 0)) (by (with_reducible repeat (first | refine blk_drewN ?_ _ | refine blk_drew ?_ | refine blk_alloc ?_ _)); exact BK157.out) hb); have n2_ := Aside0.mk (blk_below (g := gb163) (o := .cells #[.int .i64 t158, .int .i64 t159, .int .i64 t160, .string t161, .bool t162] 59 (0, 0)) (by (with_reducible repeat (first | refine blk_drewN ?_ _ | refine blk_drew ?_ | refine blk_alloc ?_ _)); exact BK163.out) hb); have n3_ := Aside0.mk (below_step (by repeat (first | (with_reducible first | exact HB.out | apply below_alloc | apply pw_below_drewN | apply below_drew1 | refine below_set ?_ GE157.out | refine below_set ?_ GE163.out) | exact HB.out)) hb); clear HO_9; clear BK157; clear BK163; clear HB; have HO_9 := n0_; have BK157 := n1_; have BK163 := n2_; have HB := n3_; clear n0_ n1_ n2_ n3_; (try clear hb); (try clear hb2); (try clear hk); (try clear hi)))
                repeat (go_quiet (first | (go_at_call 29; (with_reducible refine (tarnlaw28_awake.calls k2  t170 _ A92.out).mono ?_); rintro e w93 ⟨rfl, hb⟩; have n0_ := Aside0.mk (Kd.R_below (by (with_reducible repeat (first | apply Kd.R_alloc | apply Kd.R_drewN | apply Kd.R_drew)); exact HO_9.out) hb); have n1_ := Aside0.mk (blk_below (g := gb157) (o := .cells #[.int .i64 a0_0, .int .i64 a0_1, .int .i64 a0_2, .string a0_3, .bool a0_4] 59 (0, 0)) (by (with_reducible repeat (first | refine blk_drewN ?_ _ | refine blk_drew ?_ | refine blk_alloc ?_ _)); exact BK157.out) hb); have n2_ := Aside0.mk (blk_below (g := gb163) (o := .cells #[.int .i64 t158, .int .i64 t159, .int .i64 t160, .string t161, .bool t162] 59 (0, 0)) (by (with_reducible repeat (first | refine blk_drewN ?_ _ | refine blk_drew ?_ | refine blk_alloc ?_ _)); exact BK163.out) hb); have n3_ := Aside0.mk (below_step (by repeat (first | (with_reducible first | exact HB.out | apply below_alloc | apply pw_below_drewN | apply below_drew1 | refine below_set ?_ GE157.out | refine below_set ?_ GE163.out) | exact HB.out)) hb); clear HO_9; clear BK157; clear BK163; clear HB; have HO_9 := n0_; have BK157 := n1_; have BK163 := n2_; have HB := n3_; clear n0_ n1_ n2_ n3_; (try clear hb); (try clear hb2); (try clear hk); (try clear hi))); try go_wp2_with (first | (go_at_call 29; (with_reducible refine (tarnlaw28_awake.calls k2  t170 _ A92.out).mono ?_); rintro e w93 ⟨rfl, hb⟩; have n0_ := Aside0.mk (Kd.R_below (by (with_reducible repeat (first | apply Kd.R_alloc | apply Kd.R_drewN | apply Kd.R_drew)); exact HO_9.out) hb); have n1_ := Aside0.mk (blk_below (g := gb157) (o := .cells #[.int .i64 a0_0, .int .i64 a0_1, .int .i64 a0_2, .string a0_3, .bool a0_4] 59 (0, 0)) (by (with_reducible repeat (first | refine blk_drewN ?_ _ | refine blk_drew ?_ | refine blk_alloc ?_ _)); exact BK157.out) hb); have n2_ := Aside0.mk (blk_below (g := gb163) (o := .cells #[.int .i64 t158, .int .i64 t159, .int .i64 t160, .string t161, .bool t162] 59 (0, 0)) (by (with_reducible repeat (first | refine blk_drewN ?_ _ | refine blk_drew ?_ | refine blk_alloc ?_ _)); exact BK163.out) hb); have n3_ := Aside0.mk (below_step (by repeat (first | (with_reducible first | exact HB.out | apply below_alloc | apply pw_below_drewN | apply below_drew1 | refine below_set ?_ GE157.out | refine below_set ?_ GE163.out) | exact HB.out)) hb); clear HO_9; clear BK157; clear BK163; clear HB; have HO_9 := n0_; have BK157 := n1_; have BK163 := n2_; have HB := n3_; clear n0_ n1_ n2_ n3_; (try clear hb); (try clear hb2); (try clear hk); (try clear hi))))
                go_ret
                exact ⟨by first | rfl | (simp [errW_none, errW_some] <;> rfl) | (simp [*, errW_none, errW_some] <;> rfl), by repeat (first | (with_reducible first | exact HB.out | apply below_alloc | apply pw_below_drewN | apply below_drew1 | refine below_set ?_ GE157.out | refine below_set ?_ GE163.out) | exact HB.out)⟩
        · rw [if_neg c30] at H
          have c30b0 : ((wrap64 ((t164.length : Int) * 32)) == t169) = false := beq_eq_false_iff_ne.mpr c30
          have c30b1 : ((wrap64 ((t164.length : Int) * 32)) != t169) = true := bne_iff_ne.mpr c30
          obtain rfl := Option.some.inj H
          obtain ⟨Ao94, co94, eo94⟩ := Kd.R_slice HO_9.out
          subst eo94
          have hnb95 := NB163_157.out
          have hnc95 := NB157_163.out
          have hcz96_0 : wc.cell? ⟨gb163, 0, none⟩ = some (.int .i64 t158) := (blk_cell BK163.out 0).trans rfl
          have hcz96_1 : wc.cell? ⟨gb163, 1, none⟩ = some (.int .i64 t159) := (blk_cell BK163.out 1).trans rfl
          have hcz96_2 : wc.cell? ⟨gb163, 2, none⟩ = some (.int .i64 t160) := (blk_cell BK163.out 2).trans rfl
          have hcz96_3 : wc.cell? ⟨gb163, 3, none⟩ = some (.string t161) := (blk_cell BK163.out 3).trans rfl
          have hcz96_4 : wc.cell? ⟨gb163, 4, none⟩ = some (.bool t162) := (blk_cell BK163.out 4).trans rfl
          have hfz96_0 := blk_frozen BK163.out 0
          have hfz96_1 := blk_frozen BK163.out 1
          have hfz96_2 := blk_frozen BK163.out 2
          have hfz96_3 := blk_frozen BK163.out 3
          have hfz96_4 := blk_frozen BK163.out 4
          go_wp2_with (first | (go_at_call 30; (with_reducible refine (need_Size.calls t158 t159 t160 t161 t162 t169 _ A29.out).mono ?_); rintro e w97 ⟨rfl, hb⟩; have n0_ := Aside0.mk (Kd.R_below (by (with_reducible repeat (first | apply Kd.R_alloc | apply Kd.R_drewN | apply Kd.R_drew)); exact HO_9.out) hb); have n1_ := Aside0.mk (blk_below (g := gb157) (o := .cells #[.int .i64 a0_0, .int .i64 a0_1, .int .i64 a0_2, .string a0_3, .bool a0_4] 59 (0, 0)) (by (with_reducible repeat (first | refine blk_drewN ?_ _ | refine blk_drew ?_ | refine blk_alloc ?_ _)); exact BK157.out) hb); have n2_ := Aside0.mk (blk_below (g := gb163) (o := .cells #[.int .i64 t158, .int .i64 t159, .int .i64 t160, .string t161, .bool t162] 59 (0, 0)) (by (with_reducible repeat (first | refine blk_drewN ?_ _ | refine blk_drew ?_ | refine blk_alloc ?_ _)); exact BK163.out) hb); have n3_ := Aside0.mk (below_step (by repeat (first | (with_reducible first | exact HB.out | apply below_alloc | apply pw_below_drewN | apply below_drew1 | refine below_set ?_ GE157.out | refine below_set ?_ GE163.out) | exact HB.out)) hb); clear HO_9; clear BK157; clear BK163; clear HB; have HO_9 := n0_; have BK157 := n1_; have BK163 := n2_; have HB := n3_; clear n0_ n1_ n2_ n3_; (try clear hb); (try clear hb2); (try clear hk); (try clear hi)))
          repeat (go_quiet (first | (go_at_call 30; (with_reducible refine (need_Size.calls t158 t159 t160 t161 t162 t169 _ A29.out).mono ?_); rintro e w97 ⟨rfl, hb⟩; have n0_ := Aside0.mk (Kd.R_below (by (with_reducible repeat (first | apply Kd.R_alloc | apply Kd.R_drewN | apply Kd.R_drew)); exact HO_9.out) hb); have n1_ := Aside0.mk (blk_below (g := gb157) (o := .cells #[.int .i64 a0_0, .int .i64 a0_1, .int .i64 a0_2, .string a0_3, .bool a0_4] 59 (0, 0)) (by (with_reducible repeat (first | refine blk_drewN ?_ _ | refine blk_drew ?_ | refine blk_alloc ?_ _)); exact BK157.out) hb); have n2_ := Aside0.mk (blk_below (g := gb163) (o := .cells #[.int .i64 t158, .int .i64 t159, .int .i64 t160, .string t161, .bool t162] 59 (0, 0)) (by (with_reducible repeat (first | refine blk_drewN ?_ _ | refine blk_drew ?_ | refine blk_alloc ?_ _)); exact BK163.out) hb); have n3_ := Aside0.mk (below_step (by repeat (first | (with_reducible first | exact HB.out | apply below_alloc | apply pw_below_drewN | apply below_drew1 | refine below_set ?_ GE157.out | refine below_set ?_ GE163.out) | exact HB.out)) hb); clear HO_9; clear BK157; clear BK163; clear HB; have HO_9 := n0_; have BK157 := n1_; have BK163 := n2_; have HB := n3_; clear n0_ n1_ n2_ n3_; (try clear hb); (try clear hb2); (try clear hk); (try clear hi))); try go_wp2_with (first | (go_at_call 30; (with_reducible refine (need_Size.calls t158 t159 t160 t161 t162 t169 _ A29.out).mono ?_); rintro e w97 ⟨rfl, hb⟩; have n0_ := Aside0.mk (Kd.R_below (by (with_reducible repeat (first | apply Kd.R_alloc | apply Kd.R_drewN | apply Kd.R_drew)); exact HO_9.out) hb); have n1_ := Aside0.mk (blk_below (g := gb157) (o := .cells #[.int .i64 a0_0, .int .i64 a0_1, .int .i64 a0_2, .string a0_3, .bool a0_4] 59 (0, 0)) (by (with_reducible repeat (first | refine blk_drewN ?_ _ | refine blk_drew ?_ | refine blk_alloc ?_ _)); exact BK157.out) hb); have n2_ := Aside0.mk (blk_below (g := gb163) (o := .cells #[.int .i64 t158, .int .i64 t159, .int .i64 t160, .string t161, .bool t162] 59 (0, 0)) (by (with_reducible repeat (first | refine blk_drewN ?_ _ | refine blk_drew ?_ | refine blk_alloc ?_ _)); exact BK163.out) hb); have n3_ := Aside0.mk (below_step (by repeat (first | (with_reducible first | exact HB.out | apply below_alloc | apply pw_below_drewN | apply below_drew1 | refine below_set ?_ GE157.out | refine below_set ?_ GE163.out) | exact HB.out)) hb); clear HO_9; clear BK157; clear BK163; clear HB; have HO_9 := n0_; have BK157 := n1_; have BK163 := n2_; have HB := n3_; clear n0_ n1_ n2_ n3_; (try clear hb); (try clear hb2); (try clear hk); (try clear hi))))
          go_ret
          exact ⟨by first | rfl | (simp [errW_none, errW_some] <;> rfl) | (simp [*, errW_none, errW_some] <;> rfl), by repeat (first | (with_reducible first | exact HB.out | apply below_alloc | apply pw_below_drewN | apply below_drew1 | refine below_set ?_ GE157.out | refine below_set ?_ GE163.out) | exact HB.out)⟩

/-- THE ONE PURE STATEMENT of tarnlaw28_NeedParts: yours. -/
def tarnlaw28_NeedParts.Pure : Prop := ∀ (a0_0 : Int) (a0_1 : Int) (a0_2 : Int) (a0_3 : ByteArray) (a0_4 : Bool) (a1 : Int) (a2 : Int), Wf59 (⟨a0_0, a0_1, a0_2, a0_3, a0_4⟩ : S59) → (Lit.int .i64 a1).wf = true → (Lit.int .i64 a2).wf = true → ∃ k, tarnlaw28_NeedParts.f k a0_0 a0_1 a0_2 a0_3 a0_4 a1 a2 = some true
theorem tarnlaw28_NeedParts.walk (P : tarnlaw28_NeedParts.Pure) (a0_0 : Int) (a0_1 : Int) (a0_2 : Int) (a0_3 : ByteArray) (a0_4 : Bool) (a1 : Int) (a2 : Int) (w : World) (w0 : Wf59 (⟨a0_0, a0_1, a0_2, a0_3, a0_4⟩ : S59)) (w1 : (Lit.int .i64 a1).wf = true) (w2 : (Lit.int .i64 a2).wf = true) :
    Calls Try.prog 6 #[.agg #[.int .i64 a0_0, .int .i64 a0_1, .int .i64 a0_2, .string a0_3, .bool a0_4], .int .i64 a1, .int .i64 a2] w fun e w' => e = .returned (.bool true) ∧ Below w.heap.size w w' := by
  obtain ⟨k, h⟩ := P a0_0 a0_1 a0_2 a0_3 a0_4 a1 a2 w0 w1 w2
  refine (tarnlaw28_NeedParts.calls k a0_0 a0_1 a0_2 a0_3 a0_4 a1 a2 true w  h).mono ?_
  rintro e w' ⟨rfl, hd⟩
  exact ⟨rfl, hd⟩

end Go.Proofs.Ytfblmfefcgmpfab.PNeed
